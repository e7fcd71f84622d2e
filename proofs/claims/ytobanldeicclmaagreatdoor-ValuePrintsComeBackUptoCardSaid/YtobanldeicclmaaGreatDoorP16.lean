/- The walks of not, minus. -/
import Derived.Test.YtobanldeicclmaaGreatDoorP15
namespace Go.Proofs.YtobanldeicclmaaGreatDoor
open Go.RowKit Vtx
attribute [local go_sem ↓] Go.wp_at_zero Go.wp_at_succ
set_option maxHeartbeats 8000000 in
set_option maxRecDepth 100000 in
theorem not_spec (s : ByteArray) (L : List Tok) (hN : ∀ L', L'.length < L.length → PSpec 86 .not s L') (hS : ∀ L', L'.length ≤ L.length → PSpec 112 .sum s L') : PSpec 86 .not s L := by
  intro g i w hp hm hL
  have HPA := Lib.hid hp
  have HM := Lib.hid hm
  have hlt := hp.b.lt
  have HPI := Lib.hid (Pz_eq s.data.toList.length .not [] L)
  obtain ⟨R, hR⟩ : ∃ R, Pz s.data.toList.length .not [] L = R := ⟨_, rfl⟩
  rw [hR] at HPI ⊢
  dsimp only [stepP] at HPI
  obtain ⟨b, hb⟩ : ∃ b, isW L notW = b := ⟨_, rfl⟩
  have HI := Lib.hid (fun (W' : World) (hp : PaAt W' g s i) => is_any g s i W' hp notW (by decide))
  rw [hL, hb, show tb notW = ⟨#[110, 111, 116]⟩ from rfl] at HI
  have HBW := Lib.hid hb
  clear hp hm hR hb
  cases b
  · have HPI := Lib.hid (HPI.out.trans (if_neg (by rw [HBW.out]; decide)))
    obtain ⟨r, hr⟩ : ∃ r, Pz s.data.toList.length .sum [] L = r := ⟨_, rfl⟩
    have H1 := Lib.hid (fun W' (hp : PaAt W' g s i) hm => hr ▸ hS L (Nat.le_refl _) g i W' hp hm hL)
    have HR1 := Lib.hid hr
    rw [hr] at HPI
    have HSS := Lib.hid hS
    clear hr hN hS
    go_enter Tryz.func86, Tryz.ntmps86
    go_upto_region 1 with (fail)
    obtain ⟨W, hW⟩ : ∃ W, W = w.alloc (.cells #[.int .i64 0, .int .i64 0, .string ⟨#[]⟩, .int .i64 0, .int .i64 0, .string ⟨#[]⟩, .slice none 0 0, .slice none 0 0] 27 (0, 0)) := ⟨_, rfl⟩
    have hkW : Kp g w W := by rw [hW]; exact (kp_refl g w).alloc _
    have HPW := Lib.hid (show PaAt W g s i by rw [hW]; exact HPA.out.alloc _)
    have HMW := Lib.hid (HM.out.kp hkW)
    have BR : Blk W w.heap.size 27 #[.int .i64 0, .int .i64 0, .string ⟨#[]⟩, .int .i64 0, .int .i64 0, .string ⟨#[]⟩, .slice none 0 0, .slice none 0 0] := by rw [hW]; exact Blk.new w _ _
    have hWs : w.heap.size < W.heap.size := BR.lt
    have hszW : W.heap.size = w.heap.size + 1 := by rw [hW]; simp
    have HBR := Lib.hid BR
    rw [← hW]
    clear hW BR
    go_wp2_with (go_at_call 84; (with_reducible refine (HI.out _ HPW.out).mono ?_); rintro e w2 ⟨rfl, rfl⟩)
    refine (H1.out W HPW.out HMW.out).mono ?_
    cases r with
    | err k =>
      rintro e w1 ⟨rfl, hk1⟩
      go_wp2_with fail
      refine ⟨rfl, ?_⟩
      rw [HPI.out]
      exact ⟨rfl, hkW.trans hk1⟩
    | ok es l1 =>
      rintro e w1 ⟨y, i1, cs1, rfl, rfl, rfl, hx1, hp1, hk1⟩
      have HX1 := Lib.hid hx1
      obtain ⟨hn1, hs1, hl1, ha1, hxx1, hrr1, hii1⟩ := hx1
      rename_i A1 c1 A2 c2 csi1
      clear hxx1 hrr1 hii1 hn1 hs1 hl1 ha1
      have exa1 : (exCells y A1 c1 A2 c2).toArray = #[.int .i64 y.k, .int .i64 y.op, .string y.nm, .int .i64 y.v.k, .int .i64 y.v.n, .string y.v.s, .slice A1 y.v.l.length c1, .slice A2 y.ar.length c2] := rfl
      rw [exa1]
      clear exa1
      have HPI := Lib.hid (show R = if signOf 4 11 (wordsOf s.data.toList i1) = 0 then .ok [y] (wordsOf s.data.toList i1) else (Pz s.data.toList.length .sum [] (wordsOf s.data.toList i1).tail).bind fun es2 l2 => .ok [mkOp (signOf 4 11 (wordsOf s.data.toList i1)) ([y] ++ es2)] l2 from HPI.out)
      have hsW1 := hk1.size
      have HP1 := Lib.hid hp1
      have HK1 := Lib.hid (hkW.trans hk1)
      have HBR1 := Lib.hid (HBR.out.kp hk1 (by omega))
      have HL1 := Lib.hid (Pz_len HR1.out)
      clear hp1
      go_upto_region 5 with (fail)
      obtain ⟨W1, hW1⟩ : ∃ W1, W1 = w1.alloc (.cells #[.int .i64 y.k, .int .i64 y.op, .string y.nm, .int .i64 y.v.k, .int .i64 y.v.n, .string y.v.s, .slice A1 y.v.l.length c1, .slice A2 y.ar.length c2] 27 (0, 0)) := ⟨_, rfl⟩
      have hszW1 : W1.heap.size = w1.heap.size + 1 := by rw [hW1]; simp
      have HPW1 := Lib.hid (show PaAt W1 g s i1 by rw [hW1]; exact HP1.out.alloc _)
      have HKW1 := Lib.hid (show Kp g w W1 by rw [hW1]; exact HK1.out.alloc _)
      have HBRW := Lib.hid (show Blk W1 w.heap.size 27 #[.int .i64 0, .int .i64 0, .string ⟨#[]⟩, .int .i64 0, .int .i64 0, .string ⟨#[]⟩, .slice none 0 0, .slice none 0 0] by rw [hW1]; exact HBR1.out.alloc _)
      have HBX := Lib.hid (show Blk W1 w1.heap.size 27 #[.int .i64 y.k, .int .i64 y.op, .string y.nm, .int .i64 y.v.k, .int .i64 y.v.n, .string y.v.s, .slice A1 y.v.l.length c1, .slice A2 y.ar.length c2] by rw [hW1]; exact Blk.new w1 _ _)
      have HXW := Lib.hid (show ExIn W1 (fun b => W.heap.size ≤ b) W1.heap.size y (exCells y A1 c1 A2 c2) by
        rw [hW1]
        exact (HX1.out.keep (Stay.of ((Below.refl _ _).alloc (Nat.le_refl _) _))).up (by simp))
      rw [← hW1]
      clear hW1
      go_wp2_with fail
      refine (comp_any W1).mono ?_
      rintro e wc ⟨ta, rfl, hta, hbc⟩
      have HTA := Lib.hid hta
      have HPc := Lib.hid (HPW1.out.below hbc)
      have HKc := Lib.hid (HKW1.out.trans (Kp.of hbc))
      have HBRc := Lib.hid (HBRW.out.below hbc HBRW.out.lt)
      have HBXc := Lib.hid (HBX.out.below hbc HBX.out.lt)
      have HXc := Lib.hid ((HXW.out.keep (Stay.of hbc)).up hbc.size)
      have hszc : W1.heap.size ≤ wc.heap.size := hbc.size
      obtain ⟨LW, hLW⟩ : ∃ LW, wordsOf s.data.toList i1 = LW := ⟨_, rfl⟩
      have HLW := Lib.hid hLW
      have HI2 := Lib.hid (fun (W' : World) (hp : PaAt W' g s i1) (word : ByteArray) (hw : word.data.toList ≠ []) => (show Calls Tryz.prog 84 #[.pointer (some ⟨g, 0, none⟩), .string word] W' fun e w' => e = .returned (.bool (isW (wordsOf s.data.toList i1) word.data.toList)) ∧ W' = w' from by
        have h1 := is_any g s i1 W' hp word.data.toList hw
        rwa [tb_of] at h1))
      rw [hLW] at HPI HL1 HI2
      clear hta hbc hLW
      go_wp2_with fail
      go_loopw [18, 5] (fun ix _ wz => ∃ k : Nat, k ≤ 8 ∧ ix = .int .i64 k ∧ Hid (∀ d ∈ compL.take k, isW LW d.1.data.toList = false) ∧ Below wc.heap.size wc wz) (fun ix _ _ => 8 - (intOf ix).toNat)
      case atStart => exact ⟨0, Nat.zero_le _, rfl, Lib.hid (fun d h => by simp at h), Below.refl _ _⟩
      case round =>
        obtain ⟨k, hk, rfl, HNO, hbr⟩ := hrel
        have hsr := hbr.size
        by_cases hklt : k < 8
        · have hlt' : k < compL.length := hklt
          obtain ⟨ad, ci, had, -, hci, hcell⟩ := (signs_keep HTA.out hbr).at_ hlt'
          injection had with had
          subst had
          obtain ⟨d, hed⟩ : ∃ d, compL[k] = d := ⟨_, rfl⟩
          have hdm : d ∈ compL := by rw [← hed]; exact List.getElem_mem hlt'
          have HTK := Lib.hid (show compL.take (k + 1) = compL.take k ++ [d] by rw [List.take_succ_eq_append_getElem hlt', hed])
          have HFD := Lib.hid (show isW LW d.1.data.toList = true → signOf 4 11 LW = d.2 from fun h => by rw [← hed]; exact comp_found hlt' HNO.out (by rw [hed]; exact h))
          rw [hed] at hci
          have HLT := Lib.hid hklt
          have hwne : d.1.data.toList ≠ [] := by
            have h1 : (compL.all fun d => decide (d.1.data.toList ≠ [])) = true := by decide
            have h2 := List.all_eq_true.1 h1 d hdm
            rwa [decide_eq_true_iff] at h2
          obtain ⟨dw, dop⟩ := d
          have hci2 : ci = [.string dw, .int .i64 dop] := hci
          subst hci2
          have fc0 : wr.cell? (ta.add (k * 2)) = some (.string dw) := hcell 0 _ rfl
          have fc1 : wr.cell? ⟨(ta.add (k * 2)).block, (ta.add (k * 2)).off + 1, none⟩ = some (.int .i64 dop) := hcell 1 _ rfl
          have hk0 : (0 : Int) ≤ (k : Nat) := by omega
          have hk1' : (k : Int) < 8 := by omega
          have HD0 := Lib.hid (show dop ≠ 0 by
            have h1 : (compL.all fun d => decide (d.2 ≠ 0)) = true := by decide
            have h2 := List.all_eq_true.1 h1 _ hdm
            rwa [decide_eq_true_iff] at h2)
          clear hci hcell hed hdm hlt'
          go_upto_region 8 with (fail)
          obtain ⟨Ws, hWs'⟩ : ∃ Ws, Ws = wr.alloc (.cells #[.string dw, .int .i64 dop] 83 (0, 0)) := ⟨_, rfl⟩
          have hbs : Below wc.heap.size wc Ws := by rw [hWs']; exact hbr.alloc hsr _
          have HBS := Lib.hid (show Blk Ws wr.heap.size 83 #[.string dw, .int .i64 dop] by rw [hWs']; exact Blk.new wr _ _)
          have HPs := Lib.hid (HPc.out.below hbs)
          have HKs := Lib.hid (HKc.out.trans (Kp.of hbs))
          rw [← hWs']
          clear hWs' fc0 fc1
          have BS := HBS.out
          have sc0 : Ws.cell? ⟨wr.heap.size, 0, none⟩ = some (.string dw) := BS.cell 0
          have sc1 : Ws.cell? ⟨wr.heap.size, 1, none⟩ = some (.int .i64 dop) := BS.cell 1
          have hgr : g < wr.heap.size := Nat.lt_of_lt_of_le HPc.out.b.lt hsr
          have HIW := Lib.hid (HI2.out Ws HPs.out dw hwne)
          obtain ⟨b, hb⟩ : ∃ b, isW LW dw.data.toList = b := ⟨_, rfl⟩
          rw [show isW LW (dw, dop).1.data.toList = b from hb] at HFD
          rw [hb] at HIW
          clear hwne
          cases b
          · have HNO2 := Lib.hid (show ∀ d ∈ compL.take (k + 1), isW LW d.1.data.toList = false by
              rw [HTK.out]
              intro x hx
              rcases List.mem_append.1 hx with h | h
              · exact HNO.out x h
              · rw [List.mem_singleton] at h; rw [h]; exact hb)
            clear hb
            go_wp2_with (go_at_call 84; (with_reducible refine HIW.out.mono ?_); rintro e w3 ⟨rfl, rfl⟩)
            go_roundw
            case rel => exact ⟨k + 1, HLT.out, by go_num, HNO2, hbs⟩
            case measure =>
              have := HLT.out
              simp [intOf]
              omega
          · have HSG := Lib.hid (HFD.out rfl)
            have htl := words_tail' (s := s) (i := i1) (by rw [HLW.out]; intro e; rw [e] at hb; cases hb)
            have HN := Lib.hid (next_any g s i1 Ws HPs.out)
            obtain ⟨i3, hi3⟩ : ∃ i3, curAt s i1 + (curTx s i1).length = i3 := ⟨_, rfl⟩
            rw [hi3] at HN htl
            have HTL := Lib.hid htl
            clear hi3 htl hb
            go_upto_region 10 with (first | (go_at_call 84; (with_reducible refine HIW.out.mono ?_); rintro e w3 ⟨rfl, rfl⟩) | (go_at_call 30; (with_reducible refine HN.out.mono ?_); rintro e w4 ⟨rfl, hp4, hk4⟩; have HP4 := Lib.hid hp4; have HK4 := Lib.hid hk4; clear hp4 hk4))
            obtain ⟨r2, hr2⟩ : ∃ r, Pz s.data.toList.length .sum [] (wordsOf s.data.toList i3) = r := ⟨_, rfl⟩
            have HC2 := Lib.hid (fun W' (hp : PaAt W' g s i3) hm => hr2 ▸ HSS.out (wordsOf s.data.toList i3) (by have h1 := HTL.out.2; rw [HLW.out] at h1; have h2 := HL1.out; omega) g i3 W' hp hm rfl)
            have HR2 := Lib.hid hr2
            have HKW4 := Lib.hid (HKs.out.trans HK4.out)
            have HM4 := Lib.hid (HM.out.kp HKW4.out)
            have HBX4 := Lib.hid ((HBXc.out.below hbs HBXc.out.lt).kp HK4.out (by omega))
            have HBR4 := Lib.hid ((HBRc.out.below hbs HBRc.out.lt).kp HK4.out (by omega))
            have HBS4 := Lib.hid (HBS.out.kp HK4.out (by have := HKW1.out.size; omega))
            have HX4 := Lib.hid (((HXc.out.keep (Stay.of hbs)).up hbs.size).kpq HK4.out (fun k hk => by omega))
            have hsz4 : W.heap.size ≤ w4.heap.size := by have := HK4.out.size; have := hbs.size; have := HKW1.out.size; have := hszc; omega
            clear hr2 sc0 sc1
            have B4 := HBX4.out
            have BS4 := HBS4.out
            have yc0 : w4.cell? ⟨w1.heap.size, 0, none⟩ = some (.int .i64 y.k) := B4.cell 0
            have yc1 : w4.cell? ⟨w1.heap.size, 1, none⟩ = some (.int .i64 y.op) := B4.cell 1
            have yc2 : w4.cell? ⟨w1.heap.size, 2, none⟩ = some (.string y.nm) := B4.cell 2
            have yc3 : w4.cell? ⟨w1.heap.size, 3, none⟩ = some (.int .i64 y.v.k) := B4.cell 3
            have yc4 : w4.cell? ⟨w1.heap.size, 4, none⟩ = some (.int .i64 y.v.n) := B4.cell 4
            have yc5 : w4.cell? ⟨w1.heap.size, 5, none⟩ = some (.string y.v.s) := B4.cell 5
            have yc6 : w4.cell? ⟨w1.heap.size, 6, none⟩ = some (.slice A1 y.v.l.length c1) := B4.cell 6
            have yc7 : w4.cell? ⟨w1.heap.size, 7, none⟩ = some (.slice A2 y.ar.length c2) := B4.cell 7
            have sc1 : w4.cell? ⟨wr.heap.size, 1, none⟩ = some (.int .i64 dop) := BS4.cell 1
            cases r2 with
            | err k2 =>
              have hend : R = .err k2 := by rw [HPI.out, if_neg (by rw [HSG.out]; exact HD0.out), ← HLW.out, ← HTL.out.1, HR2.out]; rfl
              have HEND := Lib.hid hend
              clear hend
              refine wp_region_any (by kernel_rfl) ?_
              change wpAny _ _ _ _ _ _ _ (World.drew _)
              refine wpAny_take (i := 0) (v := ?v9) rfl (by kernel_rfl) (by kernel_rfl) (by kernel_rfl) (fun _ _ _ h => h) (Or.inl ⟨by rfl, ?y9⟩) ?r9
              case y9 =>
                intro w
                go_simp
                all_goals with_reducible rfl
              refine wpAny_take (i := 3) (v := ?v10) rfl (by kernel_rfl) (by kernel_rfl) (by kernel_rfl) (fun _ _ _ h => h) (Or.inl ⟨by rfl, ?y10⟩) ?r10
              case y10 =>
                intro w
                go_simp
                all_goals with_reducible rfl
              refine wpAny_ready (rs := [1, 2, 4]) (by kernel_rfl) (by simp) ?_
              refine AllReady.cons rfl (fun K hK => ?_) ?_
              · go_simp
                refine hK _ _ ?_
                clear hK K
                refine wpAny_ready (rs := [2, 4]) (by kernel_rfl) (by simp) ?_
                refine AllReady.cons rfl (fun K hK => ?_) ?_
                · go_simp
                  refine hK _ _ ?_
                  clear hK K
                  refine wpAny_ready (rs := [4]) (by kernel_rfl) (by simp) ?_
                  refine AllReady.cons rfl (fun K hK => ?_) AllReady.nil
                  go_simp
                  go_wp2_with fail
                  refine (HC2.out _ (HP4.out.below (Below.refl _ _).drew) (HM4.out.below (Below.refl _ _).drew)).mono ?_
                  rintro e w5 ⟨rfl, hk5⟩
                  go_wp2_with fail
                  refine ⟨rfl, ?_⟩
                  rw [HEND.out]
                  exact ⟨rfl, HKW4.out.trans ((Kp.of (Below.refl _ _).drew).trans hk5)⟩
                refine AllReady.cons rfl (fun K hK => ?_) AllReady.nil
                go_simp
                go_wp2_with fail
                refine (HC2.out _ (HP4.out.below (Below.refl _ _).drew) (HM4.out.below (Below.refl _ _).drew)).mono ?_
                rintro e w5 ⟨rfl, hk5⟩
                go_wp2_with fail
                refine ⟨rfl, ?_⟩
                rw [HEND.out]
                exact ⟨rfl, HKW4.out.trans ((Kp.of (Below.refl _ _).drew).trans hk5)⟩
              refine AllReady.cons rfl (fun K hK => ?_) ?_
              · go_simp
                refine hK _ _ ?_
                clear hK K
                refine wpAny_ready (rs := [1, 4]) (by kernel_rfl) (by simp) ?_
                refine AllReady.cons rfl (fun K hK => ?_) ?_
                · go_simp
                  refine hK _ _ ?_
                  clear hK K
                  refine wpAny_ready (rs := [4]) (by kernel_rfl) (by simp) ?_
                  refine AllReady.cons rfl (fun K hK => ?_) AllReady.nil
                  go_simp
                  go_wp2_with fail
                  refine (HC2.out _ (HP4.out.below (Below.refl _ _).drew) (HM4.out.below (Below.refl _ _).drew)).mono ?_
                  rintro e w5 ⟨rfl, hk5⟩
                  go_wp2_with fail
                  refine ⟨rfl, ?_⟩
                  rw [HEND.out]
                  exact ⟨rfl, HKW4.out.trans ((Kp.of (Below.refl _ _).drew).trans hk5)⟩
                refine AllReady.cons rfl (fun K hK => ?_) AllReady.nil
                go_simp
                go_wp2_with fail
                refine (HC2.out _ (HP4.out.below (Below.refl _ _).drew) (HM4.out.below (Below.refl _ _).drew)).mono ?_
                rintro e w5 ⟨rfl, hk5⟩
                go_wp2_with fail
                refine ⟨rfl, ?_⟩
                rw [HEND.out]
                exact ⟨rfl, HKW4.out.trans ((Kp.of (Below.refl _ _).drew).trans hk5)⟩
              refine AllReady.cons rfl (fun K hK => ?_) AllReady.nil
              go_simp
              go_wp2_with fail
              refine (HC2.out _ (HP4.out.below (Below.refl _ _).drew) (HM4.out.below (Below.refl _ _).drew)).mono ?_
              rintro e w5 ⟨rfl, hk5⟩
              go_wp2_with fail
              refine ⟨rfl, ?_⟩
              rw [HEND.out]
              exact ⟨rfl, HKW4.out.trans ((Kp.of (Below.refl _ _).drew).trans hk5)⟩
            | ok es2 l2 =>
              refine wp_region_any (by kernel_rfl) ?_
              change wpAny _ _ _ _ _ _ _ (World.drew _)
              refine wpAny_take (i := 0) (v := ?v11) rfl (by kernel_rfl) (by kernel_rfl) (by kernel_rfl) (fun _ _ _ h => h) (Or.inl ⟨by rfl, ?y11⟩) ?r11
              case y11 =>
                intro w
                go_simp
                all_goals with_reducible rfl
              refine wpAny_take (i := 3) (v := ?v12) rfl (by kernel_rfl) (by kernel_rfl) (by kernel_rfl) (fun _ _ _ h => h) (Or.inl ⟨by rfl, ?y12⟩) ?r12
              case y12 =>
                intro w
                go_simp
                all_goals with_reducible rfl
              refine wpAny_ready (rs := [1, 2, 4]) (by kernel_rfl) (by simp) ?_
              refine AllReady.cons rfl (fun K hK => ?_) ?_
              · go_simp
                refine hK _ _ ?_
                clear hK K
                refine wpAny_ready (rs := [2, 4]) (by kernel_rfl) (by simp) ?_
                refine AllReady.cons rfl (fun K hK => ?_) ?_
                · go_simp
                  refine hK _ _ ?_
                  clear hK K
                  refine wpAny_ready (rs := [4]) (by kernel_rfl) (by simp) ?_
                  refine AllReady.cons rfl (fun K hK => ?_) AllReady.nil
                  go_simp
                  go_wp2_with fail
                  refine (HC2.out _ (HP4.out.below (Below.refl _ _).drew) (HM4.out.below (Below.refl _ _).drew)).mono ?_
                  rintro e w5 ⟨y2, i4, cs5, rfl, rfl, rfl, hx5, hp5, hk5⟩
                  have HX5 := Lib.hid hx5
                  obtain ⟨hn5, hs5, hl5, ha5, hxx5, hrr5, hii5⟩ := hx5
                  rename_i A3 c3 A4 c4 csi5
                  clear hxx5 hrr5 hii5 hn5 hs5 hl5 ha5
                  have exa5 : (exCells y2 A3 c3 A4 c4).toArray = #[.int .i64 y2.k, .int .i64 y2.op, .string y2.nm, .int .i64 y2.v.k, .int .i64 y2.v.n, .string y2.v.s, .slice A3 y2.v.l.length c3, .slice A4 y2.ar.length c4] := rfl
                  rw [exa5]
                  clear exa5
                  have B5 := (HBX4.out.below (Below.refl _ _).drew HBX4.out.lt).kp hk5 (by omega)
                  have BR5 := (HBR4.out.below (Below.refl _ _).drew HBR4.out.lt).kp hk5 (by omega)
                  have BS5 := (HBS4.out.below (Below.refl _ _).drew HBS4.out.lt).kp hk5 (by omega)
                  have sd1 : w5.cell? ⟨wr.heap.size, 1, none⟩ = some (.int .i64 dop) := BS5.cell 1
                  have sd2 : (w5.alloc (.cells #[.int .i64 y.k, .int .i64 y.op, .string y.nm, .int .i64 y.v.k, .int .i64 y.v.n, .string y.v.s, .slice A1 y.v.l.length c1, .slice A2 y.ar.length c2, .int .i64 y2.k, .int .i64 y2.op, .string y2.nm, .int .i64 y2.v.k, .int .i64 y2.v.n, .string y2.v.s, .slice A3 y2.v.l.length c3, .slice A4 y2.ar.length c4] 27 (0, 0))).cell? ⟨wr.heap.size, 1, none⟩ = some (.int .i64 dop) := (BS5.alloc _).cell 1
                  have uc0 : w5.cell? ⟨w1.heap.size, 0, none⟩ = some (.int .i64 y.k) := B5.cell 0
                  have uc1 : w5.cell? ⟨w1.heap.size, 1, none⟩ = some (.int .i64 y.op) := B5.cell 1
                  have uc2 : w5.cell? ⟨w1.heap.size, 2, none⟩ = some (.string y.nm) := B5.cell 2
                  have uc3 : w5.cell? ⟨w1.heap.size, 3, none⟩ = some (.int .i64 y.v.k) := B5.cell 3
                  have uc4 : w5.cell? ⟨w1.heap.size, 4, none⟩ = some (.int .i64 y.v.n) := B5.cell 4
                  have uc5 : w5.cell? ⟨w1.heap.size, 5, none⟩ = some (.string y.v.s) := B5.cell 5
                  have uc6 : w5.cell? ⟨w1.heap.size, 6, none⟩ = some (.slice A1 y.v.l.length c1) := B5.cell 6
                  have uc7 : w5.cell? ⟨w1.heap.size, 7, none⟩ = some (.slice A2 y.ar.length c2) := B5.cell 7
                  go_wp2_with fail
                  refine wpAny_ready (rs := [5]) (by kernel_rfl) (by simp) ?_
                  refine AllReady.cons rfl (fun K hK => ?_) AllReady.nil
                  go_simp
                  refine hK _ _ ?_
                  clear hK K
                  refine wpAny_ready (rs := [6]) (by kernel_rfl) (by simp) ?_
                  refine AllReady.cons rfl (fun K hK => ?_) AllReady.nil
                  go_simp
                  go_wp2_with fail
                  refine (operation_any dop _ 2 2 _).mono ?_
                  rintro e w6 ⟨rfl, hb6⟩
                  have B6 := (BR5.alloc (.cells #[.int .i64 y.k, .int .i64 y.op, .string y.nm, .int .i64 y.v.k, .int .i64 y.v.n, .string y.v.s, .slice A1 y.v.l.length c1, .slice A2 y.ar.length c2, .int .i64 y2.k, .int .i64 y2.op, .string y2.nm, .int .i64 y2.v.k, .int .i64 y2.v.n, .string y2.v.s, .slice A3 y2.v.l.length c3, .slice A4 y2.ar.length c4] 27 (0, 0))).below hb6 (BR5.alloc _).lt
                  have rc0 : w6.cell? ⟨w.heap.size, 0, none⟩ = some (.int .i64 0) := B6.cell 0
                  have rz0 : w6.frozen? ⟨w.heap.size, 0, none⟩ = false := B6.frozen 0
                  have rc1 : w6.cell? ⟨w.heap.size, 1, none⟩ = some (.int .i64 0) := B6.cell 1
                  have rz1 : w6.frozen? ⟨w.heap.size, 1, none⟩ = false := B6.frozen 1
                  have rc2 : w6.cell? ⟨w.heap.size, 2, none⟩ = some (.string ⟨#[]⟩) := B6.cell 2
                  have rz2 : w6.frozen? ⟨w.heap.size, 2, none⟩ = false := B6.frozen 2
                  have rc3 : w6.cell? ⟨w.heap.size, 3, none⟩ = some (.int .i64 0) := B6.cell 3
                  have rz3 : w6.frozen? ⟨w.heap.size, 3, none⟩ = false := B6.frozen 3
                  have rc4 : w6.cell? ⟨w.heap.size, 4, none⟩ = some (.int .i64 0) := B6.cell 4
                  have rz4 : w6.frozen? ⟨w.heap.size, 4, none⟩ = false := B6.frozen 4
                  have rc5 : w6.cell? ⟨w.heap.size, 5, none⟩ = some (.string ⟨#[]⟩) := B6.cell 5
                  have rz5 : w6.frozen? ⟨w.heap.size, 5, none⟩ = false := B6.frozen 5
                  have rc6 : w6.cell? ⟨w.heap.size, 6, none⟩ = some (.slice none 0 0) := B6.cell 6
                  have rz6 : w6.frozen? ⟨w.heap.size, 6, none⟩ = false := B6.frozen 6
                  have rc7 : w6.cell? ⟨w.heap.size, 7, none⟩ = some (.slice none 0 0) := B6.cell 7
                  have rz7 : w6.frozen? ⟨w.heap.size, 7, none⟩ = false := B6.frozen 7
                  go_wp2_with fail
                  refine wpAny_ready (rs := [7]) (by kernel_rfl) (by simp) ?_
                  refine AllReady.cons rfl (fun K hK => ?_) AllReady.nil
                  go_simp
                  refine hK _ _ ?_
                  clear hK K
                  refine wpAny_done (by kernel_rfl) ?_ _
                  have hs5 := hk5.size
                  have hs5' : w4.heap.size ≤ w5.heap.size := by simpa using hs5
                  have hend : R = .ok [mkOp dop [y, y2]] (wordsOf s.data.toList i4) := by rw [HPI.out, if_neg (by rw [HSG.out]; exact HD0.out), HSG.out, ← HLW.out, ← HTL.out.1, HR2.out]; rfl
                  have HEND := Lib.hid hend
                  clear hend
                  go_wp2_with fail
                  refine bodyPost_ret (v := .agg #[.int .i64 4, .int .i64 dop, .string ⟨#[]⟩, .int .i64 0, .int .i64 0, .string ⟨#[]⟩, .slice none 0 0, .slice (some ⟨w5.heap.size, 0, none⟩) 2 2]) (by simp [results, Tryz.results86, go_sem, rc0, rc1, rc2, rc3, rc4, rc5, rc6, rc7]) rfl ?_
                  rw [HEND.out]
                  exact ret8 (L := W.heap.size) (two_in dop (((HX4.out.keep (Stay.of (Below.refl _ _).drew)).up (by simp)).kpq hk5 (fun k hk => by omega)) (HX5.out.imp (fun k hk _ => by simp at hk; omega)) hb6 (fun k hk => by omega)) hWs hlt ((hp5.alloc (.cells #[.int .i64 y.k, .int .i64 y.op, .string y.nm, .int .i64 y.v.k, .int .i64 y.v.n, .string y.v.s, .slice A1 y.v.l.length c1, .slice A2 y.ar.length c2, .int .i64 y2.k, .int .i64 y2.op, .string y2.nm, .int .i64 y2.v.k, .int .i64 y2.v.n, .string y2.v.s, .slice A3 y2.v.l.length c3, .slice A4 y2.ar.length c4] 27 (0, 0))).below hb6) (((HKW4.out.trans ((Kp.of (Below.refl _ _).drew).trans hk5)).alloc (.cells #[.int .i64 y.k, .int .i64 y.op, .string y.nm, .int .i64 y.v.k, .int .i64 y.v.n, .string y.v.s, .slice A1 y.v.l.length c1, .slice A2 y.ar.length c2, .int .i64 y2.k, .int .i64 y2.op, .string y2.nm, .int .i64 y2.v.k, .int .i64 y2.v.n, .string y2.v.s, .slice A3 y2.v.l.length c3, .slice A4 y2.ar.length c4] 27 (0, 0))).trans (Kp.of hb6))
                refine AllReady.cons rfl (fun K hK => ?_) AllReady.nil
                go_simp
                go_wp2_with fail
                refine (HC2.out _ (HP4.out.below (Below.refl _ _).drew) (HM4.out.below (Below.refl _ _).drew)).mono ?_
                rintro e w5 ⟨y2, i4, cs5, rfl, rfl, rfl, hx5, hp5, hk5⟩
                have HX5 := Lib.hid hx5
                obtain ⟨hn5, hs5, hl5, ha5, hxx5, hrr5, hii5⟩ := hx5
                rename_i A3 c3 A4 c4 csi5
                clear hxx5 hrr5 hii5 hn5 hs5 hl5 ha5
                have exa5 : (exCells y2 A3 c3 A4 c4).toArray = #[.int .i64 y2.k, .int .i64 y2.op, .string y2.nm, .int .i64 y2.v.k, .int .i64 y2.v.n, .string y2.v.s, .slice A3 y2.v.l.length c3, .slice A4 y2.ar.length c4] := rfl
                rw [exa5]
                clear exa5
                have B5 := (HBX4.out.below (Below.refl _ _).drew HBX4.out.lt).kp hk5 (by omega)
                have BR5 := (HBR4.out.below (Below.refl _ _).drew HBR4.out.lt).kp hk5 (by omega)
                have BS5 := (HBS4.out.below (Below.refl _ _).drew HBS4.out.lt).kp hk5 (by omega)
                have sd1 : w5.cell? ⟨wr.heap.size, 1, none⟩ = some (.int .i64 dop) := BS5.cell 1
                have sd2 : (w5.alloc (.cells #[.int .i64 y.k, .int .i64 y.op, .string y.nm, .int .i64 y.v.k, .int .i64 y.v.n, .string y.v.s, .slice A1 y.v.l.length c1, .slice A2 y.ar.length c2, .int .i64 y2.k, .int .i64 y2.op, .string y2.nm, .int .i64 y2.v.k, .int .i64 y2.v.n, .string y2.v.s, .slice A3 y2.v.l.length c3, .slice A4 y2.ar.length c4] 27 (0, 0))).cell? ⟨wr.heap.size, 1, none⟩ = some (.int .i64 dop) := (BS5.alloc _).cell 1
                have uc0 : w5.cell? ⟨w1.heap.size, 0, none⟩ = some (.int .i64 y.k) := B5.cell 0
                have uc1 : w5.cell? ⟨w1.heap.size, 1, none⟩ = some (.int .i64 y.op) := B5.cell 1
                have uc2 : w5.cell? ⟨w1.heap.size, 2, none⟩ = some (.string y.nm) := B5.cell 2
                have uc3 : w5.cell? ⟨w1.heap.size, 3, none⟩ = some (.int .i64 y.v.k) := B5.cell 3
                have uc4 : w5.cell? ⟨w1.heap.size, 4, none⟩ = some (.int .i64 y.v.n) := B5.cell 4
                have uc5 : w5.cell? ⟨w1.heap.size, 5, none⟩ = some (.string y.v.s) := B5.cell 5
                have uc6 : w5.cell? ⟨w1.heap.size, 6, none⟩ = some (.slice A1 y.v.l.length c1) := B5.cell 6
                have uc7 : w5.cell? ⟨w1.heap.size, 7, none⟩ = some (.slice A2 y.ar.length c2) := B5.cell 7
                go_wp2_with fail
                refine wpAny_ready (rs := [2]) (by kernel_rfl) (by simp) ?_
                refine AllReady.cons rfl (fun K hK => ?_) AllReady.nil
                go_simp
                refine hK _ _ ?_
                clear hK K
                refine wpAny_ready (rs := [5]) (by kernel_rfl) (by simp) ?_
                refine AllReady.cons rfl (fun K hK => ?_) AllReady.nil
                go_simp
                refine hK _ _ ?_
                clear hK K
                refine wpAny_ready (rs := [6]) (by kernel_rfl) (by simp) ?_
                refine AllReady.cons rfl (fun K hK => ?_) AllReady.nil
                go_simp
                go_wp2_with fail
                refine (operation_any dop _ 2 2 _).mono ?_
                rintro e w6 ⟨rfl, hb6⟩
                have B6 := (BR5.alloc (.cells #[.int .i64 y.k, .int .i64 y.op, .string y.nm, .int .i64 y.v.k, .int .i64 y.v.n, .string y.v.s, .slice A1 y.v.l.length c1, .slice A2 y.ar.length c2, .int .i64 y2.k, .int .i64 y2.op, .string y2.nm, .int .i64 y2.v.k, .int .i64 y2.v.n, .string y2.v.s, .slice A3 y2.v.l.length c3, .slice A4 y2.ar.length c4] 27 (0, 0))).below hb6 (BR5.alloc _).lt
                have rc0 : w6.cell? ⟨w.heap.size, 0, none⟩ = some (.int .i64 0) := B6.cell 0
                have rz0 : w6.frozen? ⟨w.heap.size, 0, none⟩ = false := B6.frozen 0
                have rc1 : w6.cell? ⟨w.heap.size, 1, none⟩ = some (.int .i64 0) := B6.cell 1
                have rz1 : w6.frozen? ⟨w.heap.size, 1, none⟩ = false := B6.frozen 1
                have rc2 : w6.cell? ⟨w.heap.size, 2, none⟩ = some (.string ⟨#[]⟩) := B6.cell 2
                have rz2 : w6.frozen? ⟨w.heap.size, 2, none⟩ = false := B6.frozen 2
                have rc3 : w6.cell? ⟨w.heap.size, 3, none⟩ = some (.int .i64 0) := B6.cell 3
                have rz3 : w6.frozen? ⟨w.heap.size, 3, none⟩ = false := B6.frozen 3
                have rc4 : w6.cell? ⟨w.heap.size, 4, none⟩ = some (.int .i64 0) := B6.cell 4
                have rz4 : w6.frozen? ⟨w.heap.size, 4, none⟩ = false := B6.frozen 4
                have rc5 : w6.cell? ⟨w.heap.size, 5, none⟩ = some (.string ⟨#[]⟩) := B6.cell 5
                have rz5 : w6.frozen? ⟨w.heap.size, 5, none⟩ = false := B6.frozen 5
                have rc6 : w6.cell? ⟨w.heap.size, 6, none⟩ = some (.slice none 0 0) := B6.cell 6
                have rz6 : w6.frozen? ⟨w.heap.size, 6, none⟩ = false := B6.frozen 6
                have rc7 : w6.cell? ⟨w.heap.size, 7, none⟩ = some (.slice none 0 0) := B6.cell 7
                have rz7 : w6.frozen? ⟨w.heap.size, 7, none⟩ = false := B6.frozen 7
                go_wp2_with fail
                refine wpAny_ready (rs := [7]) (by kernel_rfl) (by simp) ?_
                refine AllReady.cons rfl (fun K hK => ?_) AllReady.nil
                go_simp
                refine hK _ _ ?_
                clear hK K
                refine wpAny_done (by kernel_rfl) ?_ _
                have hs5 := hk5.size
                have hs5' : w4.heap.size ≤ w5.heap.size := by simpa using hs5
                have hend : R = .ok [mkOp dop [y, y2]] (wordsOf s.data.toList i4) := by rw [HPI.out, if_neg (by rw [HSG.out]; exact HD0.out), HSG.out, ← HLW.out, ← HTL.out.1, HR2.out]; rfl
                have HEND := Lib.hid hend
                clear hend
                go_wp2_with fail
                refine bodyPost_ret (v := .agg #[.int .i64 4, .int .i64 dop, .string ⟨#[]⟩, .int .i64 0, .int .i64 0, .string ⟨#[]⟩, .slice none 0 0, .slice (some ⟨w5.heap.size, 0, none⟩) 2 2]) (by simp [results, Tryz.results86, go_sem, rc0, rc1, rc2, rc3, rc4, rc5, rc6, rc7]) rfl ?_
                rw [HEND.out]
                exact ret8 (L := W.heap.size) (two_in dop (((HX4.out.keep (Stay.of (Below.refl _ _).drew)).up (by simp)).kpq hk5 (fun k hk => by omega)) (HX5.out.imp (fun k hk _ => by simp at hk; omega)) hb6 (fun k hk => by omega)) hWs hlt ((hp5.alloc (.cells #[.int .i64 y.k, .int .i64 y.op, .string y.nm, .int .i64 y.v.k, .int .i64 y.v.n, .string y.v.s, .slice A1 y.v.l.length c1, .slice A2 y.ar.length c2, .int .i64 y2.k, .int .i64 y2.op, .string y2.nm, .int .i64 y2.v.k, .int .i64 y2.v.n, .string y2.v.s, .slice A3 y2.v.l.length c3, .slice A4 y2.ar.length c4] 27 (0, 0))).below hb6) (((HKW4.out.trans ((Kp.of (Below.refl _ _).drew).trans hk5)).alloc (.cells #[.int .i64 y.k, .int .i64 y.op, .string y.nm, .int .i64 y.v.k, .int .i64 y.v.n, .string y.v.s, .slice A1 y.v.l.length c1, .slice A2 y.ar.length c2, .int .i64 y2.k, .int .i64 y2.op, .string y2.nm, .int .i64 y2.v.k, .int .i64 y2.v.n, .string y2.v.s, .slice A3 y2.v.l.length c3, .slice A4 y2.ar.length c4] 27 (0, 0))).trans (Kp.of hb6))
              refine AllReady.cons rfl (fun K hK => ?_) ?_
              · go_simp
                refine hK _ _ ?_
                clear hK K
                refine wpAny_ready (rs := [1, 4]) (by kernel_rfl) (by simp) ?_
                refine AllReady.cons rfl (fun K hK => ?_) ?_
                · go_simp
                  refine hK _ _ ?_
                  clear hK K
                  refine wpAny_ready (rs := [4]) (by kernel_rfl) (by simp) ?_
                  refine AllReady.cons rfl (fun K hK => ?_) AllReady.nil
                  go_simp
                  go_wp2_with fail
                  refine (HC2.out _ (HP4.out.below (Below.refl _ _).drew) (HM4.out.below (Below.refl _ _).drew)).mono ?_
                  rintro e w5 ⟨y2, i4, cs5, rfl, rfl, rfl, hx5, hp5, hk5⟩
                  have HX5 := Lib.hid hx5
                  obtain ⟨hn5, hs5, hl5, ha5, hxx5, hrr5, hii5⟩ := hx5
                  rename_i A3 c3 A4 c4 csi5
                  clear hxx5 hrr5 hii5 hn5 hs5 hl5 ha5
                  have exa5 : (exCells y2 A3 c3 A4 c4).toArray = #[.int .i64 y2.k, .int .i64 y2.op, .string y2.nm, .int .i64 y2.v.k, .int .i64 y2.v.n, .string y2.v.s, .slice A3 y2.v.l.length c3, .slice A4 y2.ar.length c4] := rfl
                  rw [exa5]
                  clear exa5
                  have B5 := (HBX4.out.below (Below.refl _ _).drew HBX4.out.lt).kp hk5 (by omega)
                  have BR5 := (HBR4.out.below (Below.refl _ _).drew HBR4.out.lt).kp hk5 (by omega)
                  have BS5 := (HBS4.out.below (Below.refl _ _).drew HBS4.out.lt).kp hk5 (by omega)
                  have sd1 : w5.cell? ⟨wr.heap.size, 1, none⟩ = some (.int .i64 dop) := BS5.cell 1
                  have sd2 : (w5.alloc (.cells #[.int .i64 y.k, .int .i64 y.op, .string y.nm, .int .i64 y.v.k, .int .i64 y.v.n, .string y.v.s, .slice A1 y.v.l.length c1, .slice A2 y.ar.length c2, .int .i64 y2.k, .int .i64 y2.op, .string y2.nm, .int .i64 y2.v.k, .int .i64 y2.v.n, .string y2.v.s, .slice A3 y2.v.l.length c3, .slice A4 y2.ar.length c4] 27 (0, 0))).cell? ⟨wr.heap.size, 1, none⟩ = some (.int .i64 dop) := (BS5.alloc _).cell 1
                  have uc0 : w5.cell? ⟨w1.heap.size, 0, none⟩ = some (.int .i64 y.k) := B5.cell 0
                  have uc1 : w5.cell? ⟨w1.heap.size, 1, none⟩ = some (.int .i64 y.op) := B5.cell 1
                  have uc2 : w5.cell? ⟨w1.heap.size, 2, none⟩ = some (.string y.nm) := B5.cell 2
                  have uc3 : w5.cell? ⟨w1.heap.size, 3, none⟩ = some (.int .i64 y.v.k) := B5.cell 3
                  have uc4 : w5.cell? ⟨w1.heap.size, 4, none⟩ = some (.int .i64 y.v.n) := B5.cell 4
                  have uc5 : w5.cell? ⟨w1.heap.size, 5, none⟩ = some (.string y.v.s) := B5.cell 5
                  have uc6 : w5.cell? ⟨w1.heap.size, 6, none⟩ = some (.slice A1 y.v.l.length c1) := B5.cell 6
                  have uc7 : w5.cell? ⟨w1.heap.size, 7, none⟩ = some (.slice A2 y.ar.length c2) := B5.cell 7
                  go_wp2_with fail
                  refine wpAny_ready (rs := [5]) (by kernel_rfl) (by simp) ?_
                  refine AllReady.cons rfl (fun K hK => ?_) AllReady.nil
                  go_simp
                  refine hK _ _ ?_
                  clear hK K
                  refine wpAny_ready (rs := [6]) (by kernel_rfl) (by simp) ?_
                  refine AllReady.cons rfl (fun K hK => ?_) AllReady.nil
                  go_simp
                  go_wp2_with fail
                  refine (operation_any dop _ 2 2 _).mono ?_
                  rintro e w6 ⟨rfl, hb6⟩
                  have B6 := (BR5.alloc (.cells #[.int .i64 y.k, .int .i64 y.op, .string y.nm, .int .i64 y.v.k, .int .i64 y.v.n, .string y.v.s, .slice A1 y.v.l.length c1, .slice A2 y.ar.length c2, .int .i64 y2.k, .int .i64 y2.op, .string y2.nm, .int .i64 y2.v.k, .int .i64 y2.v.n, .string y2.v.s, .slice A3 y2.v.l.length c3, .slice A4 y2.ar.length c4] 27 (0, 0))).below hb6 (BR5.alloc _).lt
                  have rc0 : w6.cell? ⟨w.heap.size, 0, none⟩ = some (.int .i64 0) := B6.cell 0
                  have rz0 : w6.frozen? ⟨w.heap.size, 0, none⟩ = false := B6.frozen 0
                  have rc1 : w6.cell? ⟨w.heap.size, 1, none⟩ = some (.int .i64 0) := B6.cell 1
                  have rz1 : w6.frozen? ⟨w.heap.size, 1, none⟩ = false := B6.frozen 1
                  have rc2 : w6.cell? ⟨w.heap.size, 2, none⟩ = some (.string ⟨#[]⟩) := B6.cell 2
                  have rz2 : w6.frozen? ⟨w.heap.size, 2, none⟩ = false := B6.frozen 2
                  have rc3 : w6.cell? ⟨w.heap.size, 3, none⟩ = some (.int .i64 0) := B6.cell 3
                  have rz3 : w6.frozen? ⟨w.heap.size, 3, none⟩ = false := B6.frozen 3
                  have rc4 : w6.cell? ⟨w.heap.size, 4, none⟩ = some (.int .i64 0) := B6.cell 4
                  have rz4 : w6.frozen? ⟨w.heap.size, 4, none⟩ = false := B6.frozen 4
                  have rc5 : w6.cell? ⟨w.heap.size, 5, none⟩ = some (.string ⟨#[]⟩) := B6.cell 5
                  have rz5 : w6.frozen? ⟨w.heap.size, 5, none⟩ = false := B6.frozen 5
                  have rc6 : w6.cell? ⟨w.heap.size, 6, none⟩ = some (.slice none 0 0) := B6.cell 6
                  have rz6 : w6.frozen? ⟨w.heap.size, 6, none⟩ = false := B6.frozen 6
                  have rc7 : w6.cell? ⟨w.heap.size, 7, none⟩ = some (.slice none 0 0) := B6.cell 7
                  have rz7 : w6.frozen? ⟨w.heap.size, 7, none⟩ = false := B6.frozen 7
                  go_wp2_with fail
                  refine wpAny_ready (rs := [7]) (by kernel_rfl) (by simp) ?_
                  refine AllReady.cons rfl (fun K hK => ?_) AllReady.nil
                  go_simp
                  refine hK _ _ ?_
                  clear hK K
                  refine wpAny_done (by kernel_rfl) ?_ _
                  have hs5 := hk5.size
                  have hs5' : w4.heap.size ≤ w5.heap.size := by simpa using hs5
                  have hend : R = .ok [mkOp dop [y, y2]] (wordsOf s.data.toList i4) := by rw [HPI.out, if_neg (by rw [HSG.out]; exact HD0.out), HSG.out, ← HLW.out, ← HTL.out.1, HR2.out]; rfl
                  have HEND := Lib.hid hend
                  clear hend
                  go_wp2_with fail
                  refine bodyPost_ret (v := .agg #[.int .i64 4, .int .i64 dop, .string ⟨#[]⟩, .int .i64 0, .int .i64 0, .string ⟨#[]⟩, .slice none 0 0, .slice (some ⟨w5.heap.size, 0, none⟩) 2 2]) (by simp [results, Tryz.results86, go_sem, rc0, rc1, rc2, rc3, rc4, rc5, rc6, rc7]) rfl ?_
                  rw [HEND.out]
                  exact ret8 (L := W.heap.size) (two_in dop (((HX4.out.keep (Stay.of (Below.refl _ _).drew)).up (by simp)).kpq hk5 (fun k hk => by omega)) (HX5.out.imp (fun k hk _ => by simp at hk; omega)) hb6 (fun k hk => by omega)) hWs hlt ((hp5.alloc (.cells #[.int .i64 y.k, .int .i64 y.op, .string y.nm, .int .i64 y.v.k, .int .i64 y.v.n, .string y.v.s, .slice A1 y.v.l.length c1, .slice A2 y.ar.length c2, .int .i64 y2.k, .int .i64 y2.op, .string y2.nm, .int .i64 y2.v.k, .int .i64 y2.v.n, .string y2.v.s, .slice A3 y2.v.l.length c3, .slice A4 y2.ar.length c4] 27 (0, 0))).below hb6) (((HKW4.out.trans ((Kp.of (Below.refl _ _).drew).trans hk5)).alloc (.cells #[.int .i64 y.k, .int .i64 y.op, .string y.nm, .int .i64 y.v.k, .int .i64 y.v.n, .string y.v.s, .slice A1 y.v.l.length c1, .slice A2 y.ar.length c2, .int .i64 y2.k, .int .i64 y2.op, .string y2.nm, .int .i64 y2.v.k, .int .i64 y2.v.n, .string y2.v.s, .slice A3 y2.v.l.length c3, .slice A4 y2.ar.length c4] 27 (0, 0))).trans (Kp.of hb6))
                refine AllReady.cons rfl (fun K hK => ?_) AllReady.nil
                go_simp
                go_wp2_with fail
                refine (HC2.out _ (HP4.out.below (Below.refl _ _).drew) (HM4.out.below (Below.refl _ _).drew)).mono ?_
                rintro e w5 ⟨y2, i4, cs5, rfl, rfl, rfl, hx5, hp5, hk5⟩
                have HX5 := Lib.hid hx5
                obtain ⟨hn5, hs5, hl5, ha5, hxx5, hrr5, hii5⟩ := hx5
                rename_i A3 c3 A4 c4 csi5
                clear hxx5 hrr5 hii5 hn5 hs5 hl5 ha5
                have exa5 : (exCells y2 A3 c3 A4 c4).toArray = #[.int .i64 y2.k, .int .i64 y2.op, .string y2.nm, .int .i64 y2.v.k, .int .i64 y2.v.n, .string y2.v.s, .slice A3 y2.v.l.length c3, .slice A4 y2.ar.length c4] := rfl
                rw [exa5]
                clear exa5
                have B5 := (HBX4.out.below (Below.refl _ _).drew HBX4.out.lt).kp hk5 (by omega)
                have BR5 := (HBR4.out.below (Below.refl _ _).drew HBR4.out.lt).kp hk5 (by omega)
                have BS5 := (HBS4.out.below (Below.refl _ _).drew HBS4.out.lt).kp hk5 (by omega)
                have sd1 : w5.cell? ⟨wr.heap.size, 1, none⟩ = some (.int .i64 dop) := BS5.cell 1
                have sd2 : (w5.alloc (.cells #[.int .i64 y.k, .int .i64 y.op, .string y.nm, .int .i64 y.v.k, .int .i64 y.v.n, .string y.v.s, .slice A1 y.v.l.length c1, .slice A2 y.ar.length c2, .int .i64 y2.k, .int .i64 y2.op, .string y2.nm, .int .i64 y2.v.k, .int .i64 y2.v.n, .string y2.v.s, .slice A3 y2.v.l.length c3, .slice A4 y2.ar.length c4] 27 (0, 0))).cell? ⟨wr.heap.size, 1, none⟩ = some (.int .i64 dop) := (BS5.alloc _).cell 1
                have uc0 : w5.cell? ⟨w1.heap.size, 0, none⟩ = some (.int .i64 y.k) := B5.cell 0
                have uc1 : w5.cell? ⟨w1.heap.size, 1, none⟩ = some (.int .i64 y.op) := B5.cell 1
                have uc2 : w5.cell? ⟨w1.heap.size, 2, none⟩ = some (.string y.nm) := B5.cell 2
                have uc3 : w5.cell? ⟨w1.heap.size, 3, none⟩ = some (.int .i64 y.v.k) := B5.cell 3
                have uc4 : w5.cell? ⟨w1.heap.size, 4, none⟩ = some (.int .i64 y.v.n) := B5.cell 4
                have uc5 : w5.cell? ⟨w1.heap.size, 5, none⟩ = some (.string y.v.s) := B5.cell 5
                have uc6 : w5.cell? ⟨w1.heap.size, 6, none⟩ = some (.slice A1 y.v.l.length c1) := B5.cell 6
                have uc7 : w5.cell? ⟨w1.heap.size, 7, none⟩ = some (.slice A2 y.ar.length c2) := B5.cell 7
                go_wp2_with fail
                refine wpAny_ready (rs := [1, 5]) (by kernel_rfl) (by simp) ?_
                refine AllReady.cons rfl (fun K hK => ?_) ?_
                · go_simp
                  refine hK _ _ ?_
                  clear hK K
                  refine wpAny_ready (rs := [5]) (by kernel_rfl) (by simp) ?_
                  refine AllReady.cons rfl (fun K hK => ?_) AllReady.nil
                  go_simp
                  refine hK _ _ ?_
                  clear hK K
                  refine wpAny_ready (rs := [6]) (by kernel_rfl) (by simp) ?_
                  refine AllReady.cons rfl (fun K hK => ?_) AllReady.nil
                  go_simp
                  go_wp2_with fail
                  refine (operation_any dop _ 2 2 _).mono ?_
                  rintro e w6 ⟨rfl, hb6⟩
                  have B6 := (BR5.alloc (.cells #[.int .i64 y.k, .int .i64 y.op, .string y.nm, .int .i64 y.v.k, .int .i64 y.v.n, .string y.v.s, .slice A1 y.v.l.length c1, .slice A2 y.ar.length c2, .int .i64 y2.k, .int .i64 y2.op, .string y2.nm, .int .i64 y2.v.k, .int .i64 y2.v.n, .string y2.v.s, .slice A3 y2.v.l.length c3, .slice A4 y2.ar.length c4] 27 (0, 0))).below hb6 (BR5.alloc _).lt
                  have rc0 : w6.cell? ⟨w.heap.size, 0, none⟩ = some (.int .i64 0) := B6.cell 0
                  have rz0 : w6.frozen? ⟨w.heap.size, 0, none⟩ = false := B6.frozen 0
                  have rc1 : w6.cell? ⟨w.heap.size, 1, none⟩ = some (.int .i64 0) := B6.cell 1
                  have rz1 : w6.frozen? ⟨w.heap.size, 1, none⟩ = false := B6.frozen 1
                  have rc2 : w6.cell? ⟨w.heap.size, 2, none⟩ = some (.string ⟨#[]⟩) := B6.cell 2
                  have rz2 : w6.frozen? ⟨w.heap.size, 2, none⟩ = false := B6.frozen 2
                  have rc3 : w6.cell? ⟨w.heap.size, 3, none⟩ = some (.int .i64 0) := B6.cell 3
                  have rz3 : w6.frozen? ⟨w.heap.size, 3, none⟩ = false := B6.frozen 3
                  have rc4 : w6.cell? ⟨w.heap.size, 4, none⟩ = some (.int .i64 0) := B6.cell 4
                  have rz4 : w6.frozen? ⟨w.heap.size, 4, none⟩ = false := B6.frozen 4
                  have rc5 : w6.cell? ⟨w.heap.size, 5, none⟩ = some (.string ⟨#[]⟩) := B6.cell 5
                  have rz5 : w6.frozen? ⟨w.heap.size, 5, none⟩ = false := B6.frozen 5
                  have rc6 : w6.cell? ⟨w.heap.size, 6, none⟩ = some (.slice none 0 0) := B6.cell 6
                  have rz6 : w6.frozen? ⟨w.heap.size, 6, none⟩ = false := B6.frozen 6
                  have rc7 : w6.cell? ⟨w.heap.size, 7, none⟩ = some (.slice none 0 0) := B6.cell 7
                  have rz7 : w6.frozen? ⟨w.heap.size, 7, none⟩ = false := B6.frozen 7
                  go_wp2_with fail
                  refine wpAny_ready (rs := [7]) (by kernel_rfl) (by simp) ?_
                  refine AllReady.cons rfl (fun K hK => ?_) AllReady.nil
                  go_simp
                  refine hK _ _ ?_
                  clear hK K
                  refine wpAny_done (by kernel_rfl) ?_ _
                  have hs5 := hk5.size
                  have hs5' : w4.heap.size ≤ w5.heap.size := by simpa using hs5
                  have hend : R = .ok [mkOp dop [y, y2]] (wordsOf s.data.toList i4) := by rw [HPI.out, if_neg (by rw [HSG.out]; exact HD0.out), HSG.out, ← HLW.out, ← HTL.out.1, HR2.out]; rfl
                  have HEND := Lib.hid hend
                  clear hend
                  go_wp2_with fail
                  refine bodyPost_ret (v := .agg #[.int .i64 4, .int .i64 dop, .string ⟨#[]⟩, .int .i64 0, .int .i64 0, .string ⟨#[]⟩, .slice none 0 0, .slice (some ⟨w5.heap.size, 0, none⟩) 2 2]) (by simp [results, Tryz.results86, go_sem, rc0, rc1, rc2, rc3, rc4, rc5, rc6, rc7]) rfl ?_
                  rw [HEND.out]
                  exact ret8 (L := W.heap.size) (two_in dop (((HX4.out.keep (Stay.of (Below.refl _ _).drew)).up (by simp)).kpq hk5 (fun k hk => by omega)) (HX5.out.imp (fun k hk _ => by simp at hk; omega)) hb6 (fun k hk => by omega)) hWs hlt ((hp5.alloc (.cells #[.int .i64 y.k, .int .i64 y.op, .string y.nm, .int .i64 y.v.k, .int .i64 y.v.n, .string y.v.s, .slice A1 y.v.l.length c1, .slice A2 y.ar.length c2, .int .i64 y2.k, .int .i64 y2.op, .string y2.nm, .int .i64 y2.v.k, .int .i64 y2.v.n, .string y2.v.s, .slice A3 y2.v.l.length c3, .slice A4 y2.ar.length c4] 27 (0, 0))).below hb6) (((HKW4.out.trans ((Kp.of (Below.refl _ _).drew).trans hk5)).alloc (.cells #[.int .i64 y.k, .int .i64 y.op, .string y.nm, .int .i64 y.v.k, .int .i64 y.v.n, .string y.v.s, .slice A1 y.v.l.length c1, .slice A2 y.ar.length c2, .int .i64 y2.k, .int .i64 y2.op, .string y2.nm, .int .i64 y2.v.k, .int .i64 y2.v.n, .string y2.v.s, .slice A3 y2.v.l.length c3, .slice A4 y2.ar.length c4] 27 (0, 0))).trans (Kp.of hb6))
                refine AllReady.cons rfl (fun K hK => ?_) AllReady.nil
                go_simp
                refine hK _ _ ?_
                clear hK K
                refine wpAny_ready (rs := [1]) (by kernel_rfl) (by simp) ?_
                refine AllReady.cons rfl (fun K hK => ?_) AllReady.nil
                go_simp
                refine hK _ _ ?_
                clear hK K
                refine wpAny_ready (rs := [6]) (by kernel_rfl) (by simp) ?_
                refine AllReady.cons rfl (fun K hK => ?_) AllReady.nil
                go_simp
                go_wp2_with fail
                refine (operation_any dop _ 2 2 _).mono ?_
                rintro e w6 ⟨rfl, hb6⟩
                have B6 := (BR5.alloc (.cells #[.int .i64 y.k, .int .i64 y.op, .string y.nm, .int .i64 y.v.k, .int .i64 y.v.n, .string y.v.s, .slice A1 y.v.l.length c1, .slice A2 y.ar.length c2, .int .i64 y2.k, .int .i64 y2.op, .string y2.nm, .int .i64 y2.v.k, .int .i64 y2.v.n, .string y2.v.s, .slice A3 y2.v.l.length c3, .slice A4 y2.ar.length c4] 27 (0, 0))).below hb6 (BR5.alloc _).lt
                have rc0 : w6.cell? ⟨w.heap.size, 0, none⟩ = some (.int .i64 0) := B6.cell 0
                have rz0 : w6.frozen? ⟨w.heap.size, 0, none⟩ = false := B6.frozen 0
                have rc1 : w6.cell? ⟨w.heap.size, 1, none⟩ = some (.int .i64 0) := B6.cell 1
                have rz1 : w6.frozen? ⟨w.heap.size, 1, none⟩ = false := B6.frozen 1
                have rc2 : w6.cell? ⟨w.heap.size, 2, none⟩ = some (.string ⟨#[]⟩) := B6.cell 2
                have rz2 : w6.frozen? ⟨w.heap.size, 2, none⟩ = false := B6.frozen 2
                have rc3 : w6.cell? ⟨w.heap.size, 3, none⟩ = some (.int .i64 0) := B6.cell 3
                have rz3 : w6.frozen? ⟨w.heap.size, 3, none⟩ = false := B6.frozen 3
                have rc4 : w6.cell? ⟨w.heap.size, 4, none⟩ = some (.int .i64 0) := B6.cell 4
                have rz4 : w6.frozen? ⟨w.heap.size, 4, none⟩ = false := B6.frozen 4
                have rc5 : w6.cell? ⟨w.heap.size, 5, none⟩ = some (.string ⟨#[]⟩) := B6.cell 5
                have rz5 : w6.frozen? ⟨w.heap.size, 5, none⟩ = false := B6.frozen 5
                have rc6 : w6.cell? ⟨w.heap.size, 6, none⟩ = some (.slice none 0 0) := B6.cell 6
                have rz6 : w6.frozen? ⟨w.heap.size, 6, none⟩ = false := B6.frozen 6
                have rc7 : w6.cell? ⟨w.heap.size, 7, none⟩ = some (.slice none 0 0) := B6.cell 7
                have rz7 : w6.frozen? ⟨w.heap.size, 7, none⟩ = false := B6.frozen 7
                go_wp2_with fail
                refine wpAny_ready (rs := [7]) (by kernel_rfl) (by simp) ?_
                refine AllReady.cons rfl (fun K hK => ?_) AllReady.nil
                go_simp
                refine hK _ _ ?_
                clear hK K
                refine wpAny_done (by kernel_rfl) ?_ _
                have hs5 := hk5.size
                have hs5' : w4.heap.size ≤ w5.heap.size := by simpa using hs5
                have hend : R = .ok [mkOp dop [y, y2]] (wordsOf s.data.toList i4) := by rw [HPI.out, if_neg (by rw [HSG.out]; exact HD0.out), HSG.out, ← HLW.out, ← HTL.out.1, HR2.out]; rfl
                have HEND := Lib.hid hend
                clear hend
                go_wp2_with fail
                refine bodyPost_ret (v := .agg #[.int .i64 4, .int .i64 dop, .string ⟨#[]⟩, .int .i64 0, .int .i64 0, .string ⟨#[]⟩, .slice none 0 0, .slice (some ⟨w5.heap.size, 0, none⟩) 2 2]) (by simp [results, Tryz.results86, go_sem, rc0, rc1, rc2, rc3, rc4, rc5, rc6, rc7]) rfl ?_
                rw [HEND.out]
                exact ret8 (L := W.heap.size) (two_in dop (((HX4.out.keep (Stay.of (Below.refl _ _).drew)).up (by simp)).kpq hk5 (fun k hk => by omega)) (HX5.out.imp (fun k hk _ => by simp at hk; omega)) hb6 (fun k hk => by omega)) hWs hlt ((hp5.alloc (.cells #[.int .i64 y.k, .int .i64 y.op, .string y.nm, .int .i64 y.v.k, .int .i64 y.v.n, .string y.v.s, .slice A1 y.v.l.length c1, .slice A2 y.ar.length c2, .int .i64 y2.k, .int .i64 y2.op, .string y2.nm, .int .i64 y2.v.k, .int .i64 y2.v.n, .string y2.v.s, .slice A3 y2.v.l.length c3, .slice A4 y2.ar.length c4] 27 (0, 0))).below hb6) (((HKW4.out.trans ((Kp.of (Below.refl _ _).drew).trans hk5)).alloc (.cells #[.int .i64 y.k, .int .i64 y.op, .string y.nm, .int .i64 y.v.k, .int .i64 y.v.n, .string y.v.s, .slice A1 y.v.l.length c1, .slice A2 y.ar.length c2, .int .i64 y2.k, .int .i64 y2.op, .string y2.nm, .int .i64 y2.v.k, .int .i64 y2.v.n, .string y2.v.s, .slice A3 y2.v.l.length c3, .slice A4 y2.ar.length c4] 27 (0, 0))).trans (Kp.of hb6))
              refine AllReady.cons rfl (fun K hK => ?_) AllReady.nil
              go_simp
              go_wp2_with fail
              refine (HC2.out _ (HP4.out.below (Below.refl _ _).drew) (HM4.out.below (Below.refl _ _).drew)).mono ?_
              rintro e w5 ⟨y2, i4, cs5, rfl, rfl, rfl, hx5, hp5, hk5⟩
              have HX5 := Lib.hid hx5
              obtain ⟨hn5, hs5, hl5, ha5, hxx5, hrr5, hii5⟩ := hx5
              rename_i A3 c3 A4 c4 csi5
              clear hxx5 hrr5 hii5 hn5 hs5 hl5 ha5
              have exa5 : (exCells y2 A3 c3 A4 c4).toArray = #[.int .i64 y2.k, .int .i64 y2.op, .string y2.nm, .int .i64 y2.v.k, .int .i64 y2.v.n, .string y2.v.s, .slice A3 y2.v.l.length c3, .slice A4 y2.ar.length c4] := rfl
              rw [exa5]
              clear exa5
              have B5 := (HBX4.out.below (Below.refl _ _).drew HBX4.out.lt).kp hk5 (by omega)
              have BR5 := (HBR4.out.below (Below.refl _ _).drew HBR4.out.lt).kp hk5 (by omega)
              have BS5 := (HBS4.out.below (Below.refl _ _).drew HBS4.out.lt).kp hk5 (by omega)
              have sd1 : w5.cell? ⟨wr.heap.size, 1, none⟩ = some (.int .i64 dop) := BS5.cell 1
              have sd2 : (w5.alloc (.cells #[.int .i64 y.k, .int .i64 y.op, .string y.nm, .int .i64 y.v.k, .int .i64 y.v.n, .string y.v.s, .slice A1 y.v.l.length c1, .slice A2 y.ar.length c2, .int .i64 y2.k, .int .i64 y2.op, .string y2.nm, .int .i64 y2.v.k, .int .i64 y2.v.n, .string y2.v.s, .slice A3 y2.v.l.length c3, .slice A4 y2.ar.length c4] 27 (0, 0))).cell? ⟨wr.heap.size, 1, none⟩ = some (.int .i64 dop) := (BS5.alloc _).cell 1
              have uc0 : w5.cell? ⟨w1.heap.size, 0, none⟩ = some (.int .i64 y.k) := B5.cell 0
              have uc1 : w5.cell? ⟨w1.heap.size, 1, none⟩ = some (.int .i64 y.op) := B5.cell 1
              have uc2 : w5.cell? ⟨w1.heap.size, 2, none⟩ = some (.string y.nm) := B5.cell 2
              have uc3 : w5.cell? ⟨w1.heap.size, 3, none⟩ = some (.int .i64 y.v.k) := B5.cell 3
              have uc4 : w5.cell? ⟨w1.heap.size, 4, none⟩ = some (.int .i64 y.v.n) := B5.cell 4
              have uc5 : w5.cell? ⟨w1.heap.size, 5, none⟩ = some (.string y.v.s) := B5.cell 5
              have uc6 : w5.cell? ⟨w1.heap.size, 6, none⟩ = some (.slice A1 y.v.l.length c1) := B5.cell 6
              have uc7 : w5.cell? ⟨w1.heap.size, 7, none⟩ = some (.slice A2 y.ar.length c2) := B5.cell 7
              go_wp2_with fail
              refine wpAny_ready (rs := [1, 2]) (by kernel_rfl) (by simp) ?_
              refine AllReady.cons rfl (fun K hK => ?_) ?_
              · go_simp
                refine hK _ _ ?_
                clear hK K
                refine wpAny_ready (rs := [2]) (by kernel_rfl) (by simp) ?_
                refine AllReady.cons rfl (fun K hK => ?_) AllReady.nil
                go_simp
                refine hK _ _ ?_
                clear hK K
                refine wpAny_ready (rs := [5]) (by kernel_rfl) (by simp) ?_
                refine AllReady.cons rfl (fun K hK => ?_) AllReady.nil
                go_simp
                refine hK _ _ ?_
                clear hK K
                refine wpAny_ready (rs := [6]) (by kernel_rfl) (by simp) ?_
                refine AllReady.cons rfl (fun K hK => ?_) AllReady.nil
                go_simp
                go_wp2_with fail
                refine (operation_any dop _ 2 2 _).mono ?_
                rintro e w6 ⟨rfl, hb6⟩
                have B6 := (BR5.alloc (.cells #[.int .i64 y.k, .int .i64 y.op, .string y.nm, .int .i64 y.v.k, .int .i64 y.v.n, .string y.v.s, .slice A1 y.v.l.length c1, .slice A2 y.ar.length c2, .int .i64 y2.k, .int .i64 y2.op, .string y2.nm, .int .i64 y2.v.k, .int .i64 y2.v.n, .string y2.v.s, .slice A3 y2.v.l.length c3, .slice A4 y2.ar.length c4] 27 (0, 0))).below hb6 (BR5.alloc _).lt
                have rc0 : w6.cell? ⟨w.heap.size, 0, none⟩ = some (.int .i64 0) := B6.cell 0
                have rz0 : w6.frozen? ⟨w.heap.size, 0, none⟩ = false := B6.frozen 0
                have rc1 : w6.cell? ⟨w.heap.size, 1, none⟩ = some (.int .i64 0) := B6.cell 1
                have rz1 : w6.frozen? ⟨w.heap.size, 1, none⟩ = false := B6.frozen 1
                have rc2 : w6.cell? ⟨w.heap.size, 2, none⟩ = some (.string ⟨#[]⟩) := B6.cell 2
                have rz2 : w6.frozen? ⟨w.heap.size, 2, none⟩ = false := B6.frozen 2
                have rc3 : w6.cell? ⟨w.heap.size, 3, none⟩ = some (.int .i64 0) := B6.cell 3
                have rz3 : w6.frozen? ⟨w.heap.size, 3, none⟩ = false := B6.frozen 3
                have rc4 : w6.cell? ⟨w.heap.size, 4, none⟩ = some (.int .i64 0) := B6.cell 4
                have rz4 : w6.frozen? ⟨w.heap.size, 4, none⟩ = false := B6.frozen 4
                have rc5 : w6.cell? ⟨w.heap.size, 5, none⟩ = some (.string ⟨#[]⟩) := B6.cell 5
                have rz5 : w6.frozen? ⟨w.heap.size, 5, none⟩ = false := B6.frozen 5
                have rc6 : w6.cell? ⟨w.heap.size, 6, none⟩ = some (.slice none 0 0) := B6.cell 6
                have rz6 : w6.frozen? ⟨w.heap.size, 6, none⟩ = false := B6.frozen 6
                have rc7 : w6.cell? ⟨w.heap.size, 7, none⟩ = some (.slice none 0 0) := B6.cell 7
                have rz7 : w6.frozen? ⟨w.heap.size, 7, none⟩ = false := B6.frozen 7
                go_wp2_with fail
                refine wpAny_ready (rs := [7]) (by kernel_rfl) (by simp) ?_
                refine AllReady.cons rfl (fun K hK => ?_) AllReady.nil
                go_simp
                refine hK _ _ ?_
                clear hK K
                refine wpAny_done (by kernel_rfl) ?_ _
                have hs5 := hk5.size
                have hs5' : w4.heap.size ≤ w5.heap.size := by simpa using hs5
                have hend : R = .ok [mkOp dop [y, y2]] (wordsOf s.data.toList i4) := by rw [HPI.out, if_neg (by rw [HSG.out]; exact HD0.out), HSG.out, ← HLW.out, ← HTL.out.1, HR2.out]; rfl
                have HEND := Lib.hid hend
                clear hend
                go_wp2_with fail
                refine bodyPost_ret (v := .agg #[.int .i64 4, .int .i64 dop, .string ⟨#[]⟩, .int .i64 0, .int .i64 0, .string ⟨#[]⟩, .slice none 0 0, .slice (some ⟨w5.heap.size, 0, none⟩) 2 2]) (by simp [results, Tryz.results86, go_sem, rc0, rc1, rc2, rc3, rc4, rc5, rc6, rc7]) rfl ?_
                rw [HEND.out]
                exact ret8 (L := W.heap.size) (two_in dop (((HX4.out.keep (Stay.of (Below.refl _ _).drew)).up (by simp)).kpq hk5 (fun k hk => by omega)) (HX5.out.imp (fun k hk _ => by simp at hk; omega)) hb6 (fun k hk => by omega)) hWs hlt ((hp5.alloc (.cells #[.int .i64 y.k, .int .i64 y.op, .string y.nm, .int .i64 y.v.k, .int .i64 y.v.n, .string y.v.s, .slice A1 y.v.l.length c1, .slice A2 y.ar.length c2, .int .i64 y2.k, .int .i64 y2.op, .string y2.nm, .int .i64 y2.v.k, .int .i64 y2.v.n, .string y2.v.s, .slice A3 y2.v.l.length c3, .slice A4 y2.ar.length c4] 27 (0, 0))).below hb6) (((HKW4.out.trans ((Kp.of (Below.refl _ _).drew).trans hk5)).alloc (.cells #[.int .i64 y.k, .int .i64 y.op, .string y.nm, .int .i64 y.v.k, .int .i64 y.v.n, .string y.v.s, .slice A1 y.v.l.length c1, .slice A2 y.ar.length c2, .int .i64 y2.k, .int .i64 y2.op, .string y2.nm, .int .i64 y2.v.k, .int .i64 y2.v.n, .string y2.v.s, .slice A3 y2.v.l.length c3, .slice A4 y2.ar.length c4] 27 (0, 0))).trans (Kp.of hb6))
              refine AllReady.cons rfl (fun K hK => ?_) AllReady.nil
              go_simp
              refine hK _ _ ?_
              clear hK K
              refine wpAny_ready (rs := [1, 5]) (by kernel_rfl) (by simp) ?_
              refine AllReady.cons rfl (fun K hK => ?_) ?_
              · go_simp
                refine hK _ _ ?_
                clear hK K
                refine wpAny_ready (rs := [5]) (by kernel_rfl) (by simp) ?_
                refine AllReady.cons rfl (fun K hK => ?_) AllReady.nil
                go_simp
                refine hK _ _ ?_
                clear hK K
                refine wpAny_ready (rs := [6]) (by kernel_rfl) (by simp) ?_
                refine AllReady.cons rfl (fun K hK => ?_) AllReady.nil
                go_simp
                go_wp2_with fail
                refine (operation_any dop _ 2 2 _).mono ?_
                rintro e w6 ⟨rfl, hb6⟩
                have B6 := (BR5.alloc (.cells #[.int .i64 y.k, .int .i64 y.op, .string y.nm, .int .i64 y.v.k, .int .i64 y.v.n, .string y.v.s, .slice A1 y.v.l.length c1, .slice A2 y.ar.length c2, .int .i64 y2.k, .int .i64 y2.op, .string y2.nm, .int .i64 y2.v.k, .int .i64 y2.v.n, .string y2.v.s, .slice A3 y2.v.l.length c3, .slice A4 y2.ar.length c4] 27 (0, 0))).below hb6 (BR5.alloc _).lt
                have rc0 : w6.cell? ⟨w.heap.size, 0, none⟩ = some (.int .i64 0) := B6.cell 0
                have rz0 : w6.frozen? ⟨w.heap.size, 0, none⟩ = false := B6.frozen 0
                have rc1 : w6.cell? ⟨w.heap.size, 1, none⟩ = some (.int .i64 0) := B6.cell 1
                have rz1 : w6.frozen? ⟨w.heap.size, 1, none⟩ = false := B6.frozen 1
                have rc2 : w6.cell? ⟨w.heap.size, 2, none⟩ = some (.string ⟨#[]⟩) := B6.cell 2
                have rz2 : w6.frozen? ⟨w.heap.size, 2, none⟩ = false := B6.frozen 2
                have rc3 : w6.cell? ⟨w.heap.size, 3, none⟩ = some (.int .i64 0) := B6.cell 3
                have rz3 : w6.frozen? ⟨w.heap.size, 3, none⟩ = false := B6.frozen 3
                have rc4 : w6.cell? ⟨w.heap.size, 4, none⟩ = some (.int .i64 0) := B6.cell 4
                have rz4 : w6.frozen? ⟨w.heap.size, 4, none⟩ = false := B6.frozen 4
                have rc5 : w6.cell? ⟨w.heap.size, 5, none⟩ = some (.string ⟨#[]⟩) := B6.cell 5
                have rz5 : w6.frozen? ⟨w.heap.size, 5, none⟩ = false := B6.frozen 5
                have rc6 : w6.cell? ⟨w.heap.size, 6, none⟩ = some (.slice none 0 0) := B6.cell 6
                have rz6 : w6.frozen? ⟨w.heap.size, 6, none⟩ = false := B6.frozen 6
                have rc7 : w6.cell? ⟨w.heap.size, 7, none⟩ = some (.slice none 0 0) := B6.cell 7
                have rz7 : w6.frozen? ⟨w.heap.size, 7, none⟩ = false := B6.frozen 7
                go_wp2_with fail
                refine wpAny_ready (rs := [7]) (by kernel_rfl) (by simp) ?_
                refine AllReady.cons rfl (fun K hK => ?_) AllReady.nil
                go_simp
                refine hK _ _ ?_
                clear hK K
                refine wpAny_done (by kernel_rfl) ?_ _
                have hs5 := hk5.size
                have hs5' : w4.heap.size ≤ w5.heap.size := by simpa using hs5
                have hend : R = .ok [mkOp dop [y, y2]] (wordsOf s.data.toList i4) := by rw [HPI.out, if_neg (by rw [HSG.out]; exact HD0.out), HSG.out, ← HLW.out, ← HTL.out.1, HR2.out]; rfl
                have HEND := Lib.hid hend
                clear hend
                go_wp2_with fail
                refine bodyPost_ret (v := .agg #[.int .i64 4, .int .i64 dop, .string ⟨#[]⟩, .int .i64 0, .int .i64 0, .string ⟨#[]⟩, .slice none 0 0, .slice (some ⟨w5.heap.size, 0, none⟩) 2 2]) (by simp [results, Tryz.results86, go_sem, rc0, rc1, rc2, rc3, rc4, rc5, rc6, rc7]) rfl ?_
                rw [HEND.out]
                exact ret8 (L := W.heap.size) (two_in dop (((HX4.out.keep (Stay.of (Below.refl _ _).drew)).up (by simp)).kpq hk5 (fun k hk => by omega)) (HX5.out.imp (fun k hk _ => by simp at hk; omega)) hb6 (fun k hk => by omega)) hWs hlt ((hp5.alloc (.cells #[.int .i64 y.k, .int .i64 y.op, .string y.nm, .int .i64 y.v.k, .int .i64 y.v.n, .string y.v.s, .slice A1 y.v.l.length c1, .slice A2 y.ar.length c2, .int .i64 y2.k, .int .i64 y2.op, .string y2.nm, .int .i64 y2.v.k, .int .i64 y2.v.n, .string y2.v.s, .slice A3 y2.v.l.length c3, .slice A4 y2.ar.length c4] 27 (0, 0))).below hb6) (((HKW4.out.trans ((Kp.of (Below.refl _ _).drew).trans hk5)).alloc (.cells #[.int .i64 y.k, .int .i64 y.op, .string y.nm, .int .i64 y.v.k, .int .i64 y.v.n, .string y.v.s, .slice A1 y.v.l.length c1, .slice A2 y.ar.length c2, .int .i64 y2.k, .int .i64 y2.op, .string y2.nm, .int .i64 y2.v.k, .int .i64 y2.v.n, .string y2.v.s, .slice A3 y2.v.l.length c3, .slice A4 y2.ar.length c4] 27 (0, 0))).trans (Kp.of hb6))
              refine AllReady.cons rfl (fun K hK => ?_) AllReady.nil
              go_simp
              refine hK _ _ ?_
              clear hK K
              refine wpAny_ready (rs := [1]) (by kernel_rfl) (by simp) ?_
              refine AllReady.cons rfl (fun K hK => ?_) AllReady.nil
              go_simp
              refine hK _ _ ?_
              clear hK K
              refine wpAny_ready (rs := [6]) (by kernel_rfl) (by simp) ?_
              refine AllReady.cons rfl (fun K hK => ?_) AllReady.nil
              go_simp
              go_wp2_with fail
              refine (operation_any dop _ 2 2 _).mono ?_
              rintro e w6 ⟨rfl, hb6⟩
              have B6 := (BR5.alloc (.cells #[.int .i64 y.k, .int .i64 y.op, .string y.nm, .int .i64 y.v.k, .int .i64 y.v.n, .string y.v.s, .slice A1 y.v.l.length c1, .slice A2 y.ar.length c2, .int .i64 y2.k, .int .i64 y2.op, .string y2.nm, .int .i64 y2.v.k, .int .i64 y2.v.n, .string y2.v.s, .slice A3 y2.v.l.length c3, .slice A4 y2.ar.length c4] 27 (0, 0))).below hb6 (BR5.alloc _).lt
              have rc0 : w6.cell? ⟨w.heap.size, 0, none⟩ = some (.int .i64 0) := B6.cell 0
              have rz0 : w6.frozen? ⟨w.heap.size, 0, none⟩ = false := B6.frozen 0
              have rc1 : w6.cell? ⟨w.heap.size, 1, none⟩ = some (.int .i64 0) := B6.cell 1
              have rz1 : w6.frozen? ⟨w.heap.size, 1, none⟩ = false := B6.frozen 1
              have rc2 : w6.cell? ⟨w.heap.size, 2, none⟩ = some (.string ⟨#[]⟩) := B6.cell 2
              have rz2 : w6.frozen? ⟨w.heap.size, 2, none⟩ = false := B6.frozen 2
              have rc3 : w6.cell? ⟨w.heap.size, 3, none⟩ = some (.int .i64 0) := B6.cell 3
              have rz3 : w6.frozen? ⟨w.heap.size, 3, none⟩ = false := B6.frozen 3
              have rc4 : w6.cell? ⟨w.heap.size, 4, none⟩ = some (.int .i64 0) := B6.cell 4
              have rz4 : w6.frozen? ⟨w.heap.size, 4, none⟩ = false := B6.frozen 4
              have rc5 : w6.cell? ⟨w.heap.size, 5, none⟩ = some (.string ⟨#[]⟩) := B6.cell 5
              have rz5 : w6.frozen? ⟨w.heap.size, 5, none⟩ = false := B6.frozen 5
              have rc6 : w6.cell? ⟨w.heap.size, 6, none⟩ = some (.slice none 0 0) := B6.cell 6
              have rz6 : w6.frozen? ⟨w.heap.size, 6, none⟩ = false := B6.frozen 6
              have rc7 : w6.cell? ⟨w.heap.size, 7, none⟩ = some (.slice none 0 0) := B6.cell 7
              have rz7 : w6.frozen? ⟨w.heap.size, 7, none⟩ = false := B6.frozen 7
              go_wp2_with fail
              refine wpAny_ready (rs := [7]) (by kernel_rfl) (by simp) ?_
              refine AllReady.cons rfl (fun K hK => ?_) AllReady.nil
              go_simp
              refine hK _ _ ?_
              clear hK K
              refine wpAny_done (by kernel_rfl) ?_ _
              have hs5 := hk5.size
              have hs5' : w4.heap.size ≤ w5.heap.size := by simpa using hs5
              have hend : R = .ok [mkOp dop [y, y2]] (wordsOf s.data.toList i4) := by rw [HPI.out, if_neg (by rw [HSG.out]; exact HD0.out), HSG.out, ← HLW.out, ← HTL.out.1, HR2.out]; rfl
              have HEND := Lib.hid hend
              clear hend
              go_wp2_with fail
              refine bodyPost_ret (v := .agg #[.int .i64 4, .int .i64 dop, .string ⟨#[]⟩, .int .i64 0, .int .i64 0, .string ⟨#[]⟩, .slice none 0 0, .slice (some ⟨w5.heap.size, 0, none⟩) 2 2]) (by simp [results, Tryz.results86, go_sem, rc0, rc1, rc2, rc3, rc4, rc5, rc6, rc7]) rfl ?_
              rw [HEND.out]
              exact ret8 (L := W.heap.size) (two_in dop (((HX4.out.keep (Stay.of (Below.refl _ _).drew)).up (by simp)).kpq hk5 (fun k hk => by omega)) (HX5.out.imp (fun k hk _ => by simp at hk; omega)) hb6 (fun k hk => by omega)) hWs hlt ((hp5.alloc (.cells #[.int .i64 y.k, .int .i64 y.op, .string y.nm, .int .i64 y.v.k, .int .i64 y.v.n, .string y.v.s, .slice A1 y.v.l.length c1, .slice A2 y.ar.length c2, .int .i64 y2.k, .int .i64 y2.op, .string y2.nm, .int .i64 y2.v.k, .int .i64 y2.v.n, .string y2.v.s, .slice A3 y2.v.l.length c3, .slice A4 y2.ar.length c4] 27 (0, 0))).below hb6) (((HKW4.out.trans ((Kp.of (Below.refl _ _).drew).trans hk5)).alloc (.cells #[.int .i64 y.k, .int .i64 y.op, .string y.nm, .int .i64 y.v.k, .int .i64 y.v.n, .string y.v.s, .slice A1 y.v.l.length c1, .slice A2 y.ar.length c2, .int .i64 y2.k, .int .i64 y2.op, .string y2.nm, .int .i64 y2.v.k, .int .i64 y2.v.n, .string y2.v.s, .slice A3 y2.v.l.length c3, .slice A4 y2.ar.length c4] 27 (0, 0))).trans (Kp.of hb6))
        · have hall : ∀ d ∈ compL, isW LW d.1.data.toList = false := by
            have h := HNO.out
            rwa [List.take_of_length_le (show compL.length ≤ k by show 8 ≤ k; omega)] at h
          have hend : R = .ok [y] (wordsOf s.data.toList i1) := by rw [HPI.out, if_pos (comp_none hall), HLW.out]
          have HEND := Lib.hid hend
          have B2 := HBXc.out.below hbr HBXc.out.lt
          have B3 := HBRc.out.below hbr HBRc.out.lt
          clear hall hend
          have yc0 : wr.cell? ⟨w1.heap.size, 0, none⟩ = some (.int .i64 y.k) := B2.cell 0
          have yc1 : wr.cell? ⟨w1.heap.size, 1, none⟩ = some (.int .i64 y.op) := B2.cell 1
          have yc2 : wr.cell? ⟨w1.heap.size, 2, none⟩ = some (.string y.nm) := B2.cell 2
          have yc3 : wr.cell? ⟨w1.heap.size, 3, none⟩ = some (.int .i64 y.v.k) := B2.cell 3
          have yc4 : wr.cell? ⟨w1.heap.size, 4, none⟩ = some (.int .i64 y.v.n) := B2.cell 4
          have yc5 : wr.cell? ⟨w1.heap.size, 5, none⟩ = some (.string y.v.s) := B2.cell 5
          have yc6 : wr.cell? ⟨w1.heap.size, 6, none⟩ = some (.slice A1 y.v.l.length c1) := B2.cell 6
          have yc7 : wr.cell? ⟨w1.heap.size, 7, none⟩ = some (.slice A2 y.ar.length c2) := B2.cell 7
          have rc0 : wr.cell? ⟨w.heap.size, 0, none⟩ = some (.int .i64 0) := B3.cell 0
          have rz0 : wr.frozen? ⟨w.heap.size, 0, none⟩ = false := B3.frozen 0
          have rc1 : wr.cell? ⟨w.heap.size, 1, none⟩ = some (.int .i64 0) := B3.cell 1
          have rz1 : wr.frozen? ⟨w.heap.size, 1, none⟩ = false := B3.frozen 1
          have rc2 : wr.cell? ⟨w.heap.size, 2, none⟩ = some (.string ⟨#[]⟩) := B3.cell 2
          have rz2 : wr.frozen? ⟨w.heap.size, 2, none⟩ = false := B3.frozen 2
          have rc3 : wr.cell? ⟨w.heap.size, 3, none⟩ = some (.int .i64 0) := B3.cell 3
          have rz3 : wr.frozen? ⟨w.heap.size, 3, none⟩ = false := B3.frozen 3
          have rc4 : wr.cell? ⟨w.heap.size, 4, none⟩ = some (.int .i64 0) := B3.cell 4
          have rz4 : wr.frozen? ⟨w.heap.size, 4, none⟩ = false := B3.frozen 4
          have rc5 : wr.cell? ⟨w.heap.size, 5, none⟩ = some (.string ⟨#[]⟩) := B3.cell 5
          have rz5 : wr.frozen? ⟨w.heap.size, 5, none⟩ = false := B3.frozen 5
          have rc6 : wr.cell? ⟨w.heap.size, 6, none⟩ = some (.slice none 0 0) := B3.cell 6
          have rz6 : wr.frozen? ⟨w.heap.size, 6, none⟩ = false := B3.frozen 6
          have rc7 : wr.cell? ⟨w.heap.size, 7, none⟩ = some (.slice none 0 0) := B3.cell 7
          have rz7 : wr.frozen? ⟨w.heap.size, 7, none⟩ = false := B3.frozen 7
          go_wp2_with fail
          refine bodyPost_ret (v := .agg #[.int .i64 y.k, .int .i64 y.op, .string y.nm, .int .i64 y.v.k, .int .i64 y.v.n, .string y.v.s, .slice A1 y.v.l.length c1, .slice A2 y.ar.length c2]) (by simp [results, Tryz.results86, go_sem, rc0, rc1, rc2, rc3, rc4, rc5, rc6, rc7]) rfl ?_
          rw [HEND.out]
          exact ret8 (L := W.heap.size) ((HXc.out.keep (Stay.of hbr)).up hbr.size) hWs hlt (HPc.out.below hbr) (HKc.out.trans (Kp.of hbr))
  · have HPI := Lib.hid (HPI.out.trans (if_pos HBW.out))
    have htl := words_tail' (s := s) (i := i) (by rw [hL]; intro e; have h := HBW.out; rw [e] at h; cases h)
    have HN := Lib.hid (fun W (hp : PaAt W g s i) => next_any g s i W hp)
    obtain ⟨i2, hi2⟩ : ∃ i2, curAt s i + (curTx s i).length = i2 := ⟨_, rfl⟩
    rw [hi2] at HN htl
    have HTL := Lib.hid htl
    obtain ⟨r2, hr2⟩ : ∃ r, Pz s.data.toList.length .not [] (wordsOf s.data.toList i2) = r := ⟨_, rfl⟩
    have HC2 := Lib.hid (fun W' (hp : PaAt W' g s i2) hm => hr2 ▸ hN (wordsOf s.data.toList i2) (by have := HTL.out.2; rw [hL] at this; omega) g i2 W' hp hm rfl)
    have HR2 := Lib.hid hr2
    have HHL := Lib.hid hL
    clear hr2 hN hS htl hi2
    go_enter Tryz.func86, Tryz.ntmps86
    go_upto_region 1 with (fail)
    obtain ⟨W, hW⟩ : ∃ W, W = w.alloc (.cells #[.int .i64 0, .int .i64 0, .string ⟨#[]⟩, .int .i64 0, .int .i64 0, .string ⟨#[]⟩, .slice none 0 0, .slice none 0 0] 27 (0, 0)) := ⟨_, rfl⟩
    have hkW : Kp g w W := by rw [hW]; exact (kp_refl g w).alloc _
    have HPW := Lib.hid (show PaAt W g s i by rw [hW]; exact HPA.out.alloc _)
    have HMW := Lib.hid (HM.out.kp hkW)
    have BR : Blk W w.heap.size 27 #[.int .i64 0, .int .i64 0, .string ⟨#[]⟩, .int .i64 0, .int .i64 0, .string ⟨#[]⟩, .slice none 0 0, .slice none 0 0] := by rw [hW]; exact Blk.new w _ _
    have hWs : w.heap.size < W.heap.size := BR.lt
    have hszW : W.heap.size = w.heap.size + 1 := by rw [hW]; simp
    have HBR := Lib.hid BR
    rw [← hW]
    clear hW BR
    go_wp2_with (first | (go_at_call 84; (with_reducible refine (HI.out _ HPW.out).mono ?_); rintro e w3 ⟨rfl, rfl⟩) | (go_at_call 30; (with_reducible refine (HN.out _ HPW.out).mono ?_); rintro e w2 ⟨rfl, hp2, hk2⟩; have HP2 := Lib.hid hp2; have HW2 := Lib.hid hk2; have HK2 := Lib.hid (hkW.trans hk2); have HBR2 := Lib.hid (HBR.out.kp hk2 (by omega)); clear hp2 hk2))
    refine (HC2.out w2 HP2.out (HM.out.kp HK2.out)).mono ?_
    have hszW2 : W.heap.size ≤ w2.heap.size := HW2.out.size
    cases r2 with
    | err k2 =>
      rintro e w5 ⟨rfl, hk5⟩
      have hend : R = .err k2 := by rw [HPI.out, ← HHL.out, ← HTL.out.1]; rw [HR2.out]; rfl
      go_wp2_with fail
      refine ⟨rfl, ?_⟩
      rw [hend]
      exact ⟨rfl, HK2.out.trans hk5⟩
    | ok es2 l2 =>
      rintro e w5 ⟨y, i4, cs5, rfl, rfl, rfl, hx5, hp5, hk5⟩
      have HX5 := Lib.hid hx5
      obtain ⟨hn5, hs5, hl5, ha5, hxx5, hrr5, hii5⟩ := hx5
      rename_i A1 c1 A2 c2 csi5
      clear hxx5 hrr5 hii5 hn5 hs5 hl5 ha5
      have exa5 : (exCells y A1 c1 A2 c2).toArray = #[.int .i64 y.k, .int .i64 y.op, .string y.nm, .int .i64 y.v.k, .int .i64 y.v.n, .string y.v.s, .slice A1 y.v.l.length c1, .slice A2 y.ar.length c2] := rfl
      rw [exa5]
      clear exa5
      have hend : R = .ok [mkOp 1 [y]] (wordsOf s.data.toList i4) := by rw [HPI.out, ← HHL.out, ← HTL.out.1]; rw [HR2.out]; rfl
      have HB5 := Lib.hid (HBR2.out.kp hk5 (by omega))
      have hs5 := hk5.size
      go_wp2_with fail
      refine (operation_any 1 _ 1 1 _).mono ?_
      rintro e w6 ⟨rfl, hb6⟩
      have B6 := (HB5.out.alloc (.cells #[.int .i64 y.k, .int .i64 y.op, .string y.nm, .int .i64 y.v.k, .int .i64 y.v.n, .string y.v.s, .slice A1 y.v.l.length c1, .slice A2 y.ar.length c2] 27 (0, 0))).below hb6 (HB5.out.alloc _).lt
      have rc0 : w6.cell? ⟨w.heap.size, 0, none⟩ = some (.int .i64 0) := B6.cell 0
      have rz0 : w6.frozen? ⟨w.heap.size, 0, none⟩ = false := B6.frozen 0
      have rc1 : w6.cell? ⟨w.heap.size, 1, none⟩ = some (.int .i64 0) := B6.cell 1
      have rz1 : w6.frozen? ⟨w.heap.size, 1, none⟩ = false := B6.frozen 1
      have rc2 : w6.cell? ⟨w.heap.size, 2, none⟩ = some (.string ⟨#[]⟩) := B6.cell 2
      have rz2 : w6.frozen? ⟨w.heap.size, 2, none⟩ = false := B6.frozen 2
      have rc3 : w6.cell? ⟨w.heap.size, 3, none⟩ = some (.int .i64 0) := B6.cell 3
      have rz3 : w6.frozen? ⟨w.heap.size, 3, none⟩ = false := B6.frozen 3
      have rc4 : w6.cell? ⟨w.heap.size, 4, none⟩ = some (.int .i64 0) := B6.cell 4
      have rz4 : w6.frozen? ⟨w.heap.size, 4, none⟩ = false := B6.frozen 4
      have rc5 : w6.cell? ⟨w.heap.size, 5, none⟩ = some (.string ⟨#[]⟩) := B6.cell 5
      have rz5 : w6.frozen? ⟨w.heap.size, 5, none⟩ = false := B6.frozen 5
      have rc6 : w6.cell? ⟨w.heap.size, 6, none⟩ = some (.slice none 0 0) := B6.cell 6
      have rz6 : w6.frozen? ⟨w.heap.size, 6, none⟩ = false := B6.frozen 6
      have rc7 : w6.cell? ⟨w.heap.size, 7, none⟩ = some (.slice none 0 0) := B6.cell 7
      have rz7 : w6.frozen? ⟨w.heap.size, 7, none⟩ = false := B6.frozen 7
      go_wp2_with fail
      refine bodyPost_ret (v := .agg #[.int .i64 4, .int .i64 1, .string ⟨#[]⟩, .int .i64 0, .int .i64 0, .string ⟨#[]⟩, .slice none 0 0, .slice (some ⟨w5.heap.size, 0, none⟩) 1 1]) (by simp [results, Tryz.results86, go_sem, rc0, rc1, rc2, rc3, rc4, rc5, rc6, rc7]) rfl ?_
      rw [hend]
      exact ret8 (L := W.heap.size) (one_in 1 (HX5.out.imp (fun k hk _ => by omega)) hb6 (fun k hk => by omega)) hWs hlt ((hp5.alloc _).below hb6) (((HK2.out.trans hk5).alloc _).trans (Kp.of hb6))
end Go.Proofs.YtobanldeicclmaaGreatDoor
