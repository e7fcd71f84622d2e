/- The walks of chain, sum, product. -/
import Derived.Test.YtobanldeicclmaaGreatDoorP13
import Derived.Deep.RegionHeld3
namespace Go.Proofs.YtobanldeicclmaaGreatDoor
open Go.RowKit Vtx
attribute [local go_sem ↓] Go.wp_at_zero Go.wp_at_succ
set_option maxHeartbeats 8000000 in
set_option maxRecDepth 100000 in
theorem chain_prod (g : Nat) (s : ByteArray) (i : Nat) (w : World) (h : PaAt w g s i) (hm : TM w g) (L : List Tok) (hL : wordsOf s.data.toList i = L) (t : Nat) (ht : t ≠ g) (hT : Blk w t 83 (flatS sumsL).toArray) (hP : ∀ L', L'.length ≤ L.length → PSpec 135 .product s L') :
    Calls Tryz.prog 134 #[.pointer (some ⟨g, 0, none⟩), .slice (some ⟨t, 0, none⟩) 2 2, .func (.func 135) #[.pointer (some ⟨g, 0, none⟩)] #[]] w fun e w' => PRet w g s ((Pz s.data.toList.length .product [] L).bind fun es l1 => Pz s.data.toList.length .sumL es l1) e w' := by
  have HPP := Lib.hid hP
  have hlt := h.b.lt
  have H1 := Lib.hid (fun W hp hm => hP L (Nat.le_refl _) g i W hp hm hL)
  have HM := Lib.hid hm
  obtain ⟨r, hr⟩ : ∃ r, Pz s.data.toList.length .product [] L = r := ⟨_, rfl⟩
  rw [hr] at H1 ⊢
  have HR := Lib.hid hr
  have HPA := Lib.hid h
  have HTB := Lib.hid hT
  have HTG := Lib.hid ht
  clear hr hP h hm hT ht
  go_enter Tryz.func134, Tryz.ntmps134
  go_wp2_with fail
  obtain ⟨W, hW⟩ : ∃ W, W = w.alloc (.cells #[.int .i64 0, .int .i64 0, .string ⟨#[]⟩, .int .i64 0, .int .i64 0, .string ⟨#[]⟩, .slice none 0 0, .slice none 0 0] 27 (0, 0)) := ⟨_, rfl⟩
  have hkW : Kp g w W := by rw [hW]; exact (kp_refl g w).alloc _
  have HPW := Lib.hid (show PaAt W g s i by rw [hW]; exact HPA.out.alloc _)
  have BR : Blk W w.heap.size 27 #[.int .i64 0, .int .i64 0, .string ⟨#[]⟩, .int .i64 0, .int .i64 0, .string ⟨#[]⟩, .slice none 0 0, .slice none 0 0] := by rw [hW]; exact Blk.new w _ _
  have hWs : w.heap.size < W.heap.size := BR.lt
  rw [← hW]
  clear hW
  refine (H1.out W HPW.out (HM.out.kp hkW)).mono ?_
  cases r with
  | err k =>
    rintro e w1 ⟨rfl, hk1⟩
    go_wp2_with fail
    exact ⟨rfl, rfl, hkW.trans hk1⟩
  | ok es l1 =>
    rintro e w1 ⟨x, i1, cs1, rfl, rfl, rfl, hx1, hp1, hk1⟩
    have HX1 := Lib.hid hx1
    obtain ⟨hn1, hs1, hl1, ha1, hxx1, hrr1, hii1⟩ := hx1
    rename_i A1 c1 A2 c2 csi1
    clear hxx1 hrr1 hii1 hn1 hs1 hl1 ha1
    have exa1 : (exCells x A1 c1 A2 c2).toArray = #[.int .i64 x.k, .int .i64 x.op, .string x.nm, .int .i64 x.v.k, .int .i64 x.v.n, .string x.v.s, .slice A1 x.v.l.length c1, .slice A2 x.ar.length c2] := rfl
    rw [exa1]
    clear exa1
    have B1 : Blk w1 w.heap.size 27 #[.int .i64 0, .int .i64 0, .string ⟨#[]⟩, .int .i64 0, .int .i64 0, .string ⟨#[]⟩, .slice none 0 0, .slice none 0 0] := by unfold Blk; rw [hk1.block _ BR.lt (fun e => by injection e with e; omega)]; exact BR
    have hsW1 := hk1.size
    have HP1 := Lib.hid hp1
    clear BR hp1
    go_wp2_with fail
    obtain ⟨W1, hW1⟩ : ∃ W1, W1 = w1.alloc (.cells #[.int .i64 x.k, .int .i64 x.op, .string x.nm, .int .i64 x.v.k, .int .i64 x.v.n, .string x.v.s, .slice A1 x.v.l.length c1, .slice A2 x.ar.length c2] 27 (0, 0)) := ⟨_, rfl⟩
    have HK1 := Lib.hid (show Kp g w W1 by rw [hW1]; exact (hkW.trans hk1).alloc _)
    have HST := Lib.hid (show Stay (fun b => W.heap.size ≤ b) w1 W1 by rw [hW1]; exact Stay.of ((Below.refl _ _).alloc (Nat.le_refl _) _))
    have HPW1 := Lib.hid (show PaAt W1 g s i1 by rw [hW1]; exact HP1.out.alloc _)
    have HBR1 := Lib.hid (show Blk W1 w.heap.size 27 #[.int .i64 0, .int .i64 0, .string ⟨#[]⟩, .int .i64 0, .int .i64 0, .string ⟨#[]⟩, .slice none 0 0, .slice none 0 0] by rw [hW1]; exact B1.alloc _)
    have HBX1 := Lib.hid (show Blk W1 w1.heap.size 27 #[.int .i64 x.k, .int .i64 x.op, .string x.nm, .int .i64 x.v.k, .int .i64 x.v.n, .string x.v.s, .slice A1 x.v.l.length c1, .slice A2 x.ar.length c2] by rw [hW1]; exact Blk.new w1 _ _)
    have HXW1 := Lib.hid (show ExIn W1 (fun b => W.heap.size ≤ b ∧ b ≠ w1.heap.size) W1.heap.size x (exCells x A1 c1 A2 c2) by
      have h1 := HX1.out.imp (q := fun b => W.heap.size ≤ b ∧ b ≠ w1.heap.size) (fun k hk hl => ⟨hk, by omega⟩)
      rw [hW1]
      exact (h1.keep (Stay.of ((Below.refl _ _).alloc (Nat.le_refl _) _))).up (by simp))
    have hsz1 : W1.heap.size = w1.heap.size + 1 := by rw [hW1]; simp
    have HTW1 := Lib.hid (show Blk W1 t 83 (flatS sumsL).toArray by
      have h1 := HK1.out.block t HTB.out.lt (fun e => HTG.out (by injection e))
      unfold Blk
      rw [h1]; exact HTB.out)
    have htlt : t < w.heap.size := HTB.out.lt
    rw [← hW1]
    clear hW1 B1
    obtain ⟨R, hR⟩ : ∃ R, Pz s.data.toList.length .sumL [x] (wordsOf s.data.toList i1) = R := ⟨_, rfl⟩
    have HRR := Lib.hid hR.symm
    have hgoal : ((Res.ok [x] (wordsOf s.data.toList i1)).bind fun es l1 => Pz s.data.toList.length .sumL es l1) = R := hR
    have HG := Lib.hid hgoal
    have HL1 := Lib.hid (Pz_len HR.out)
    clear hgoal hR
    go_loopw [8, 10, 15] (fun _ _ _ wr => ∃ (y : Ex) (A A' : Option Addr) (c c' i2 : Nat), Hid (Blk wr w1.heap.size 27 #[.int .i64 y.k, .int .i64 y.op, .string y.nm, .int .i64 y.v.k, .int .i64 y.v.n, .string y.v.s, .slice A y.v.l.length c, .slice A' y.ar.length c']) ∧ Hid (ExIn wr (fun b => W.heap.size ≤ b ∧ b ≠ w1.heap.size) wr.heap.size y (exCells y A c A' c')) ∧ Hid (PaAt wr g s i2) ∧ Hid (Kp g w wr) ∧ Hid (Blk wr w.heap.size 27 #[.int .i64 0, .int .i64 0, .string ⟨#[]⟩, .int .i64 0, .int .i64 0, .string ⟨#[]⟩, .slice none 0 0, .slice none 0 0]) ∧ Hid (R = Pz s.data.toList.length .sumL [y] (wordsOf s.data.toList i2)) ∧ Hid ((wordsOf s.data.toList i2).length ≤ L.length)) (fun _ _ _ wr => cntW wr g s)
    case atStart => exact ⟨x, A1, A2, c1, c2, i1, HBX1, HXW1, HPW1, HK1, HBR1, HRR, HL1⟩
    case round =>
      obtain ⟨y, A, A', c, c', i2, HBY, HY, HPr, HKr, HBr, HRr, HLr⟩ := hrel
      have HTr := Lib.hid (show Blk wr t 83 (flatS sumsL).toArray by
        have h1 := HKr.out.block t HTB.out.lt (fun e => HTG.out (by injection e))
        unfold Blk
        rw [h1]; exact HTB.out)
      have htr : t < wr.heap.size := HTr.out.lt
      have HI2 := Lib.hid (fun (W' : World) (hp : PaAt W' g s i2) (word : ByteArray) (hw : word.data.toList ≠ []) => (show Calls Tryz.prog 84 #[.pointer (some ⟨g, 0, none⟩), .string word] W' fun e w' => e = .returned (.bool (isW (wordsOf s.data.toList i2) word.data.toList)) ∧ W' = w' from by
        have h1 := is_any g s i2 W' hp word.data.toList hw
        rwa [tb_of] at h1))
      obtain ⟨LW, hLW⟩ : ∃ LW, wordsOf s.data.toList i2 = LW := ⟨_, rfl⟩
      have HLW := Lib.hid hLW
      rw [hLW] at HI2
      clear hLW
      go_wp2_with fail
      go_loopw [8, 10, 15] (fun op _ ix wz => ∃ k : Nat, ∃ o : Int, k ≤ 2 ∧ ix = .int .i64 k ∧ op = .int .i64 o ∧ Hid (o = lastOp LW (sumsL.take k)) ∧ Below wr.heap.size wr wz) (fun _ _ ix _ => 2 - (intOf ix).toNat)
      case atStart => exact ⟨0, 0, Nat.zero_le _, rfl, rfl, Lib.hid rfl, Below.refl _ _⟩
      case round =>
        obtain ⟨k, o, hk, rfl, rfl, HOP, hbr⟩ := hrel
        have hsr := hbr.size
        have HPz := Lib.hid (HPr.out.below hbr)
        by_cases hklt : k < 2
        · have hlt' : k < sumsL.length := hklt
          obtain ⟨ad, ci, had, -, hci, hcell⟩ := (signs_at (HTr.out.below hbr htr) (Nat.lt_of_lt_of_le htr hsr) (by decide)).at_ hlt'
          injection had with had
          subst had
          obtain ⟨d, hed⟩ : ∃ d, sumsL[k] = d := ⟨_, rfl⟩
          have hdm : d ∈ sumsL := by rw [← hed]; exact List.getElem_mem hlt'
          have HSN := Lib.hid (show lastOp LW (sumsL.take (k + 1)) = if isW LW d.1.data.toList then d.2 else lastOp LW (sumsL.take k) by rw [List.take_succ_eq_append_getElem hlt', hed, last_snoc])
          rw [hed] at hci
          have HLT := Lib.hid hklt
          have hwne : d.1.data.toList ≠ [] := by
            have h1 : (sumsL.all fun d => decide (d.1.data.toList ≠ [])) = true := by decide
            have h2 := List.all_eq_true.1 h1 d hdm
            rwa [decide_eq_true_iff] at h2
          obtain ⟨dw, dop⟩ := d
          have hci2 : ci = [.string dw, .int .i64 dop] := hci
          subst hci2
          have fc0 : wr.cell? ⟨t, k * 2, none⟩ = some (.string dw) := by have h := hcell 0 _ rfl; simpa [addr_add] using h
          have fc1 : wr.cell? ⟨t, k * 2 + 1, none⟩ = some (.int .i64 dop) := by have h := hcell 1 _ rfl; simpa [addr_add] using h
          have hk0 : (0 : Int) ≤ (k : Nat) := by omega
          have hk1 : (k : Int) < 2 := by omega
          have HIW := Lib.hid (HI2.out (wr.alloc (.cells #[.string dw, .int .i64 dop] 83 (0, 0))) (HPz.out.alloc _) dw hwne)
          clear hci hcell hed hdm hlt' hwne
          obtain ⟨b, hb⟩ : ∃ b, isW LW dw.data.toList = b := ⟨_, rfl⟩
          rw [show isW LW (dw, dop).1.data.toList = b from hb] at HSN
          rw [hb] at HIW
          clear hb
          cases b
          · go_wp2_with (go_at_call 84; (with_reducible refine HIW.out.mono ?_); rintro e w3 ⟨rfl, rfl⟩)
            go_roundw
            case rel => exact ⟨k + 1, o, HLT.out, by go_num, rfl, Lib.hid (by rw [HSN.out, ← HOP.out]; rfl), hbr.alloc hsr _⟩
            case measure =>
              have := HLT.out
              simp [intOf]
              omega
          · go_wp2_with (go_at_call 84; (with_reducible refine HIW.out.mono ?_); rintro e w3 ⟨rfl, rfl⟩)
            go_roundw
            case rel => exact ⟨k + 1, dop, HLT.out, by go_num, rfl, Lib.hid (by rw [HSN.out]; rfl), hbr.alloc hsr _⟩
            case measure =>
              have := HLT.out
              simp [intOf]
              omega
        · have HON := Lib.hid (show o = signOf 15 16 LW by
            have h := HOP.out
            rw [List.take_of_length_le (show sumsL.length ≤ k by show 2 ≤ k; omega)] at h
            rw [h, last_sums])
          clear HOP
          have HBY2 := Lib.hid (HBY.out.below hbr HBY.out.lt)
          have HBR2 := Lib.hid (HBr.out.below hbr HBr.out.lt)
          have HY2 := Lib.hid ((HY.out.keep (Stay.of hbr)).up hbr.size)
          have HK2 := Lib.hid (HKr.out.trans (Kp.of hbr))
          by_cases ho : o = 0
          · subst ho
            have B2 := HBY2.out
            have B3 := HBR2.out
            have yc0 : wr.cell? ⟨w1.heap.size, 0, none⟩ = some (.int .i64 y.k) := B2.cell 0
            have yc1 : wr.cell? ⟨w1.heap.size, 1, none⟩ = some (.int .i64 y.op) := B2.cell 1
            have yc2 : wr.cell? ⟨w1.heap.size, 2, none⟩ = some (.string y.nm) := B2.cell 2
            have yc3 : wr.cell? ⟨w1.heap.size, 3, none⟩ = some (.int .i64 y.v.k) := B2.cell 3
            have yc4 : wr.cell? ⟨w1.heap.size, 4, none⟩ = some (.int .i64 y.v.n) := B2.cell 4
            have yc5 : wr.cell? ⟨w1.heap.size, 5, none⟩ = some (.string y.v.s) := B2.cell 5
            have yc6 : wr.cell? ⟨w1.heap.size, 6, none⟩ = some (.slice A y.v.l.length c) := B2.cell 6
            have yc7 : wr.cell? ⟨w1.heap.size, 7, none⟩ = some (.slice A' y.ar.length c') := B2.cell 7
            have rc0 : wr.cell? ⟨w.heap.size, 0, none⟩ = some (.int .i64 0) := B3.cell 0
            have rz0 : wr.frozen? ⟨w.heap.size, 0, none⟩ = false := B3.frozen 0
            have rc1 : wr.cell? ⟨w.heap.size, 1, none⟩ = some (.int .i64 0) := B3.cell 1
            have rz1 : wr.frozen? ⟨w.heap.size, 1, none⟩ = false := B3.frozen 1
            have rc2 : wr.cell? ⟨w.heap.size, 2, none⟩ = some (.string ⟨#[]⟩) := B3.cell 2
            have rz2 : wr.frozen? ⟨w.heap.size, 2, none⟩ = false := B3.frozen 2
            have rc3 : wr.cell? ⟨w.heap.size, 3, none⟩ = some (.int .i64 0) := B3.cell 3
            have rz3 : wr.frozen? ⟨w.heap.size, 3, none⟩ = false := B3.frozen 3
            have rc4 : wr.cell? ⟨w.heap.size, 4, none⟩ = some (.int .i64 0) := B3.cell 4
            have rz4 : wr.frozen? ⟨w.heap.size, 4, none⟩ = false := B3.frozen 4
            have rc5 : wr.cell? ⟨w.heap.size, 5, none⟩ = some (.string ⟨#[]⟩) := B3.cell 5
            have rz5 : wr.frozen? ⟨w.heap.size, 5, none⟩ = false := B3.frozen 5
            have rc6 : wr.cell? ⟨w.heap.size, 6, none⟩ = some (.slice none 0 0) := B3.cell 6
            have rz6 : wr.frozen? ⟨w.heap.size, 6, none⟩ = false := B3.frozen 6
            have rc7 : wr.cell? ⟨w.heap.size, 7, none⟩ = some (.slice none 0 0) := B3.cell 7
            have rz7 : wr.frozen? ⟨w.heap.size, 7, none⟩ = false := B3.frozen 7
            go_wp2_with fail
            refine bodyPost_ret (v := .agg #[.int .i64 y.k, .int .i64 y.op, .string y.nm, .int .i64 y.v.k, .int .i64 y.v.n, .string y.v.s, .slice A y.v.l.length c, .slice A' y.ar.length c']) (by simp [results, Tryz.results134, go_sem, rc0, rc1, rc2, rc3, rc4, rc5, rc6, rc7]) rfl ?_
            have hend : R = .ok [y] (wordsOf s.data.toList i2) := by rw [HRr.out, Pz_eq]; dsimp only [stepP]; rw [if_pos (by rw [HLW.out]; exact HON.out.symm)]
            rw [HG.out, hend]
            exact ret8 (HY2.out.imp (fun k hk _ => hk.1)) hWs hlt HPz.out HK2.out
          · have HO0 := Lib.hid ho
            have bo : (o == 0) = false := by simp [ho]
            have htl := words_tail' (s := s) (i := i2) (by rw [HLW.out]; exact sign_words (by rw [← HON.out]; exact ho))
            have HN := Lib.hid (next_any g s i2 wr HPz.out)
            obtain ⟨i3, hi3⟩ : ∃ i3, curAt s i2 + (curTx s i2).length = i3 := ⟨_, rfl⟩
            rw [hi3] at HN htl
            have HTL := Lib.hid htl
            clear hi3 htl ho
            go_upto_region 12 with (go_at_call 30; (with_reducible refine HN.out.mono ?_); rintro e w4 ⟨rfl, hp4, hk4⟩; have HP4 := Lib.hid hp4; have HK4 := Lib.hid hk4; clear hp4 hk4)
            obtain ⟨r2, hr2⟩ : ∃ r, Pz s.data.toList.length .product [] (wordsOf s.data.toList i3) = r := ⟨_, rfl⟩
            have HC2 := Lib.hid (fun W' (hp : PaAt W' g s i3) hm => hr2 ▸ HPP.out (wordsOf s.data.toList i3) (by have := HTL.out.2; have := HLr.out; rw [HLW.out] at *; omega) g i3 W' hp hm rfl)
            have HR2 := Lib.hid hr2
            have HM4 := Lib.hid (HM.out.kp (HK2.out.trans HK4.out))
            have HB4 := Lib.hid (HBY2.out.kp HK4.out (by omega))
            have HBR4 := Lib.hid (HBR2.out.kp HK4.out (by omega))
            have HY4 := Lib.hid (HY2.out.kpq HK4.out (fun k hk => by omega))
            have HS4 := Lib.hid HK4.out.size
            clear hr2
            have B4 := HB4.out
            have yc0 : w4.cell? ⟨w1.heap.size, 0, none⟩ = some (.int .i64 y.k) := B4.cell 0
            have yc1 : w4.cell? ⟨w1.heap.size, 1, none⟩ = some (.int .i64 y.op) := B4.cell 1
            have yc2 : w4.cell? ⟨w1.heap.size, 2, none⟩ = some (.string y.nm) := B4.cell 2
            have yc3 : w4.cell? ⟨w1.heap.size, 3, none⟩ = some (.int .i64 y.v.k) := B4.cell 3
            have yc4 : w4.cell? ⟨w1.heap.size, 4, none⟩ = some (.int .i64 y.v.n) := B4.cell 4
            have yc5 : w4.cell? ⟨w1.heap.size, 5, none⟩ = some (.string y.v.s) := B4.cell 5
            have yc6 : w4.cell? ⟨w1.heap.size, 6, none⟩ = some (.slice A y.v.l.length c) := B4.cell 6
            have yc7 : w4.cell? ⟨w1.heap.size, 7, none⟩ = some (.slice A' y.ar.length c') := B4.cell 7
            cases r2 with
            | err k2 =>
              have hend : R = .err k2 := by rw [HRr.out, Pz_eq]; dsimp only [stepP]; rw [HLW.out, if_neg (by rw [← HON.out]; exact HO0.out), ← HLW.out, ← HTL.out.1, HR2.out]; rfl
              have HEND := Lib.hid hend
              clear hend
              refine wp_region_any (by kernel_rfl) ?_
              change wpAny _ _ _ _ _ _ _ (World.drew _)
              refine wpAny_take (i := 0) (v := ?v1) rfl (by kernel_rfl) (by kernel_rfl) (by kernel_rfl) (fun _ _ _ h => h) (Or.inl ⟨by rfl, ?y1⟩) ?r1
              case y1 =>
                intro w
                go_simp
                all_goals with_reducible rfl
              refine wpAny_take (i := 2) (v := ?v2) rfl (by kernel_rfl) (by kernel_rfl) (by kernel_rfl) (fun _ _ _ h => h) (Or.inl ⟨by rfl, ?y2⟩) ?r2
              case y2 =>
                intro w
                go_simp
                all_goals with_reducible rfl
              refine wpAny_ready (rs := [1, 3]) (by kernel_rfl) (by simp) ?_
              refine AllReady.cons rfl (fun K hK => ?_) ?_
              · go_simp
                refine hK _ _ ?_
                clear hK K
                refine wpAny_ready (rs := [3]) (by kernel_rfl) (by simp) ?_
                refine AllReady.cons rfl (fun K hK => ?_) AllReady.nil
                go_simp
                go_wp2_with fail
                refine (HC2.out _ (HP4.out.below (Below.refl _ _).drew) (HM4.out.below (Below.refl _ _).drew)).mono ?_
                rintro e w5 ⟨rfl, hk5⟩
                go_wp2_with fail
                refine ⟨rfl, ?_⟩
                rw [HG.out, HEND.out]
                exact ⟨rfl, (HK2.out.trans HK4.out).trans ((Kp.of (Below.refl _ _).drew).trans hk5)⟩
              refine AllReady.cons rfl (fun K hK => ?_) AllReady.nil
              go_simp
              go_wp2_with fail
              refine (HC2.out _ (HP4.out.below (Below.refl _ _).drew) (HM4.out.below (Below.refl _ _).drew)).mono ?_
              rintro e w5 ⟨rfl, hk5⟩
              go_wp2_with fail
              refine ⟨rfl, ?_⟩
              rw [HG.out, HEND.out]
              exact ⟨rfl, (HK2.out.trans HK4.out).trans ((Kp.of (Below.refl _ _).drew).trans hk5)⟩
            | ok es2 l2 =>
              refine wp_region_any (by kernel_rfl) ?_
              change wpAny _ _ _ _ _ _ _ (World.drew _)
              refine wpAny_take (i := 0) (v := ?v3) rfl (by kernel_rfl) (by kernel_rfl) (by kernel_rfl) (fun _ _ _ h => h) (Or.inl ⟨by rfl, ?y3⟩) ?r3
              case y3 =>
                intro w
                go_simp
                all_goals with_reducible rfl
              refine wpAny_take (i := 2) (v := ?v4) rfl (by kernel_rfl) (by kernel_rfl) (by kernel_rfl) (fun _ _ _ h => h) (Or.inl ⟨by rfl, ?y4⟩) ?r4
              case y4 =>
                intro w
                go_simp
                all_goals with_reducible rfl
              refine wpAny_ready (rs := [1, 3]) (by kernel_rfl) (by simp) ?_
              refine AllReady.cons rfl (fun K hK => ?_) ?_
              · go_simp
                refine hK _ _ ?_
                clear hK K
                refine wpAny_ready (rs := [3]) (by kernel_rfl) (by simp) ?_
                refine AllReady.cons rfl (fun K hK => ?_) AllReady.nil
                go_simp
                go_wp2_with fail
                refine (HC2.out _ (HP4.out.below (Below.refl _ _).drew) (HM4.out.below (Below.refl _ _).drew)).mono ?_
                rintro e w5 ⟨y2, i4, cs5, rfl, rfl, rfl, hx5, hp5, hk5⟩
                have HX5 := Lib.hid hx5
                obtain ⟨hn5, hs5, hl5, ha5, hxx5, hrr5, hii5⟩ := hx5
                rename_i A3 c3 A4 c4 csi5
                clear hxx5 hrr5 hii5 hn5 hs5 hl5 ha5
                have exa5 : (exCells y2 A3 c3 A4 c4).toArray = #[.int .i64 y2.k, .int .i64 y2.op, .string y2.nm, .int .i64 y2.v.k, .int .i64 y2.v.n, .string y2.v.s, .slice A3 y2.v.l.length c3, .slice A4 y2.ar.length c4] := rfl
                rw [exa5]
                clear exa5
                have B5 := (HB4.out.below (Below.refl _ _).drew HB4.out.lt).kp hk5 (by omega)
                have uc0 : w5.cell? ⟨w1.heap.size, 0, none⟩ = some (.int .i64 y.k) := B5.cell 0
                have uc1 : w5.cell? ⟨w1.heap.size, 1, none⟩ = some (.int .i64 y.op) := B5.cell 1
                have uc2 : w5.cell? ⟨w1.heap.size, 2, none⟩ = some (.string y.nm) := B5.cell 2
                have uc3 : w5.cell? ⟨w1.heap.size, 3, none⟩ = some (.int .i64 y.v.k) := B5.cell 3
                have uc4 : w5.cell? ⟨w1.heap.size, 4, none⟩ = some (.int .i64 y.v.n) := B5.cell 4
                have uc5 : w5.cell? ⟨w1.heap.size, 5, none⟩ = some (.string y.v.s) := B5.cell 5
                have uc6 : w5.cell? ⟨w1.heap.size, 6, none⟩ = some (.slice A y.v.l.length c) := B5.cell 6
                have uc7 : w5.cell? ⟨w1.heap.size, 7, none⟩ = some (.slice A' y.ar.length c') := B5.cell 7
                go_wp2_with fail
                refine wpAny_ready (rs := [4]) (by kernel_rfl) (by simp) ?_
                refine AllReady.cons rfl (fun K hK => ?_) AllReady.nil
                go_simp
                refine hK _ _ ?_
                clear hK K
                refine wpAny_ready (rs := [5]) (by kernel_rfl) (by simp) ?_
                refine AllReady.cons rfl (fun K hK => ?_) AllReady.nil
                go_simp
                go_wp2_with fail
                refine (operation_any o _ 2 2 _).mono ?_
                rintro e w6 ⟨rfl, hb6⟩
                have B6 := (B5.alloc (.cells #[.int .i64 y.k, .int .i64 y.op, .string y.nm, .int .i64 y.v.k, .int .i64 y.v.n, .string y.v.s, .slice A y.v.l.length c, .slice A' y.ar.length c', .int .i64 y2.k, .int .i64 y2.op, .string y2.nm, .int .i64 y2.v.k, .int .i64 y2.v.n, .string y2.v.s, .slice A3 y2.v.l.length c3, .slice A4 y2.ar.length c4] 27 (0, 0))).below hb6 (B5.alloc _).lt
                have qc0 : w6.cell? ⟨w1.heap.size, 0, none⟩ = some (.int .i64 y.k) := B6.cell 0
                have qz0 : w6.frozen? ⟨w1.heap.size, 0, none⟩ = false := B6.frozen 0
                have qc1 : w6.cell? ⟨w1.heap.size, 1, none⟩ = some (.int .i64 y.op) := B6.cell 1
                have qz1 : w6.frozen? ⟨w1.heap.size, 1, none⟩ = false := B6.frozen 1
                have qc2 : w6.cell? ⟨w1.heap.size, 2, none⟩ = some (.string y.nm) := B6.cell 2
                have qz2 : w6.frozen? ⟨w1.heap.size, 2, none⟩ = false := B6.frozen 2
                have qc3 : w6.cell? ⟨w1.heap.size, 3, none⟩ = some (.int .i64 y.v.k) := B6.cell 3
                have qz3 : w6.frozen? ⟨w1.heap.size, 3, none⟩ = false := B6.frozen 3
                have qc4 : w6.cell? ⟨w1.heap.size, 4, none⟩ = some (.int .i64 y.v.n) := B6.cell 4
                have qz4 : w6.frozen? ⟨w1.heap.size, 4, none⟩ = false := B6.frozen 4
                have qc5 : w6.cell? ⟨w1.heap.size, 5, none⟩ = some (.string y.v.s) := B6.cell 5
                have qz5 : w6.frozen? ⟨w1.heap.size, 5, none⟩ = false := B6.frozen 5
                have qc6 : w6.cell? ⟨w1.heap.size, 6, none⟩ = some (.slice A y.v.l.length c) := B6.cell 6
                have qz6 : w6.frozen? ⟨w1.heap.size, 6, none⟩ = false := B6.frozen 6
                have qc7 : w6.cell? ⟨w1.heap.size, 7, none⟩ = some (.slice A' y.ar.length c') := B6.cell 7
                have qz7 : w6.frozen? ⟨w1.heap.size, 7, none⟩ = false := B6.frozen 7
                go_wp2_with fail
                refine wpAny_ready (rs := [6]) (by kernel_rfl) (by simp) ?_
                refine AllReady.cons rfl (fun K hK => ?_) AllReady.nil
                go_simp
                refine hK _ _ ?_
                clear hK K
                refine wpAny_done (by kernel_rfl) ?_ _
                have hs5 := hk5.size
                have hs5' : w4.heap.size ≤ w5.heap.size := by simpa using hs5
                have hs4 := HS4.out
                have hsr2 := hbr.size
                have hyl := HBY.out.lt
                have hgw5 : g < w5.heap.size := hp5.b.lt
                have HPN := Lib.hid (show PaAt (set8 w6 w1.heap.size (.int .i64 4) (.int .i64 o) (.string ⟨#[]⟩) (.int .i64 0) (.int .i64 0) (.string ⟨#[]⟩) (.slice none 0 0) (.slice (some ⟨w5.heap.size, 0, none⟩) 2 2)) g s i4 from ((hp5.alloc (.cells #[.int .i64 y.k, .int .i64 y.op, .string y.nm, .int .i64 y.v.k, .int .i64 y.v.n, .string y.v.s, .slice A y.v.l.length c, .slice A' y.ar.length c', .int .i64 y2.k, .int .i64 y2.op, .string y2.nm, .int .i64 y2.v.k, .int .i64 y2.v.n, .string y2.v.s, .slice A3 y2.v.l.length c3, .slice A4 y2.ar.length c4] 27 (0, 0))).below hb6).kp (set8_far _ _ _ _ _ _ _ _ _ _ g (by omega)))
                have HKN := Lib.hid (show Kp g w (set8 w6 w1.heap.size (.int .i64 4) (.int .i64 o) (.string ⟨#[]⟩) (.int .i64 0) (.int .i64 0) (.string ⟨#[]⟩) (.slice none 0 0) (.slice (some ⟨w5.heap.size, 0, none⟩) 2 2)) from set8_kp ((((HK2.out.trans HK4.out).trans ((Kp.of (Below.refl _ _).drew).trans hk5)).alloc (.cells #[.int .i64 y.k, .int .i64 y.op, .string y.nm, .int .i64 y.v.k, .int .i64 y.v.n, .string y.v.s, .slice A y.v.l.length c, .slice A' y.ar.length c', .int .i64 y2.k, .int .i64 y2.op, .string y2.nm, .int .i64 y2.v.k, .int .i64 y2.v.n, .string y2.v.s, .slice A3 y2.v.l.length c3, .slice A4 y2.ar.length c4] 27 (0, 0))).trans (Kp.of hb6)) (by omega) _ _ _ _ _ _ _ _)
                have HBN := Lib.hid (show Blk (set8 w6 w1.heap.size (.int .i64 4) (.int .i64 o) (.string ⟨#[]⟩) (.int .i64 0) (.int .i64 0) (.string ⟨#[]⟩) (.slice none 0 0) (.slice (some ⟨w5.heap.size, 0, none⟩) 2 2)) w.heap.size 27 #[.int .i64 0, .int .i64 0, .string ⟨#[]⟩, .int .i64 0, .int .i64 0, .string ⟨#[]⟩, .slice none 0 0, .slice none 0 0] by
                  have h1 := ((((HBR4.out.below (Below.refl _ _).drew HBR4.out.lt).kp hk5 (by omega)).alloc (.cells #[.int .i64 y.k, .int .i64 y.op, .string y.nm, .int .i64 y.v.k, .int .i64 y.v.n, .string y.v.s, .slice A y.v.l.length c, .slice A' y.ar.length c', .int .i64 y2.k, .int .i64 y2.op, .string y2.nm, .int .i64 y2.v.k, .int .i64 y2.v.n, .string y2.v.s, .slice A3 y2.v.l.length c3, .slice A4 y2.ar.length c4] 27 (0, 0))).below hb6 (by have := hb6.size; simp at *; omega))
                  unfold Blk
                  rw [set8_far _ _ _ _ _ _ _ _ _ _ _ (by omega)]
                  exact h1)
                have HYN := Lib.hid (set8_in (b := w1.heap.size) (two_in o (((HY4.out.keep (Stay.of (Below.refl _ _).drew)).up (by simp)).kpq hk5 (fun k hk => by omega)) (HX5.out.imp (fun k hk _ => by simp at hk; exact ⟨by omega, by omega⟩)) hb6 (fun k hk => ⟨by omega, by omega⟩)) (fun k hk => hk.2) (.int .i64 4) (.int .i64 o) (.string ⟨#[]⟩) (.int .i64 0) (.int .i64 0) (.string ⟨#[]⟩) (.slice none 0 0) (.slice (some ⟨w5.heap.size, 0, none⟩) 2 2))
                have hRN : R = Pz s.data.toList.length .sumL [mkOp o [y, y2]] (wordsOf s.data.toList i4) := by
                  rw [HRr.out, Pz_eq]
                  dsimp only [stepP]
                  rw [HLW.out, if_neg (by rw [← HON.out]; exact HO0.out), ← HON.out, ← HLW.out, ← HTL.out.1, HR2.out]
                  rfl
                have HRN := Lib.hid hRN
                have HLN := Lib.hid (show (wordsOf s.data.toList i4).length < (wordsOf s.data.toList i2).length by
                  have h1 := Pz_len HR2.out
                  have h2 := HTL.out.2
                  omega)
                clear hRN
                try go_wp2_with fail
                go_roundw
                case rel => exact ⟨mkOp o [y, y2], none, some ⟨w5.heap.size, 0, none⟩, 0, 2, i4, Lib.hid (set8_blk B6 _ _ _ _ _ _ _ _), HYN, HPN, HKN, HBN, HRN, Lib.hid (by have h1 := HLN.out; have h2 := HLr.out; omega)⟩
                case measure =>
                  have h1 : cntW (set8 w6 w1.heap.size (.int .i64 4) (.int .i64 o) (.string ⟨#[]⟩) (.int .i64 0) (.int .i64 0) (.string ⟨#[]⟩) (.slice none 0 0) (.slice (some ⟨w5.heap.size, 0, none⟩) 2 2)) g s < (wordsOf s.data.toList i2).length := by rw [cnt_eq HPN.out]; exact HLN.out
                  have h3 := cnt_eq HPr.out
                  rw [← h3] at h1
                  exact h1
              refine AllReady.cons rfl (fun K hK => ?_) AllReady.nil
              go_simp
              go_wp2_with fail
              refine (HC2.out _ (HP4.out.below (Below.refl _ _).drew) (HM4.out.below (Below.refl _ _).drew)).mono ?_
              rintro e w5 ⟨y2, i4, cs5, rfl, rfl, rfl, hx5, hp5, hk5⟩
              have HX5 := Lib.hid hx5
              obtain ⟨hn5, hs5, hl5, ha5, hxx5, hrr5, hii5⟩ := hx5
              rename_i A3 c3 A4 c4 csi5
              clear hxx5 hrr5 hii5 hn5 hs5 hl5 ha5
              have exa5 : (exCells y2 A3 c3 A4 c4).toArray = #[.int .i64 y2.k, .int .i64 y2.op, .string y2.nm, .int .i64 y2.v.k, .int .i64 y2.v.n, .string y2.v.s, .slice A3 y2.v.l.length c3, .slice A4 y2.ar.length c4] := rfl
              rw [exa5]
              clear exa5
              have B5 := (HB4.out.below (Below.refl _ _).drew HB4.out.lt).kp hk5 (by omega)
              have uc0 : w5.cell? ⟨w1.heap.size, 0, none⟩ = some (.int .i64 y.k) := B5.cell 0
              have uc1 : w5.cell? ⟨w1.heap.size, 1, none⟩ = some (.int .i64 y.op) := B5.cell 1
              have uc2 : w5.cell? ⟨w1.heap.size, 2, none⟩ = some (.string y.nm) := B5.cell 2
              have uc3 : w5.cell? ⟨w1.heap.size, 3, none⟩ = some (.int .i64 y.v.k) := B5.cell 3
              have uc4 : w5.cell? ⟨w1.heap.size, 4, none⟩ = some (.int .i64 y.v.n) := B5.cell 4
              have uc5 : w5.cell? ⟨w1.heap.size, 5, none⟩ = some (.string y.v.s) := B5.cell 5
              have uc6 : w5.cell? ⟨w1.heap.size, 6, none⟩ = some (.slice A y.v.l.length c) := B5.cell 6
              have uc7 : w5.cell? ⟨w1.heap.size, 7, none⟩ = some (.slice A' y.ar.length c') := B5.cell 7
              go_wp2_with fail
              refine wpAny_ready (rs := [1]) (by kernel_rfl) (by simp) ?_
              refine AllReady.cons rfl (fun K hK => ?_) AllReady.nil
              go_simp
              refine hK _ _ ?_
              clear hK K
              refine wpAny_ready (rs := [4]) (by kernel_rfl) (by simp) ?_
              refine AllReady.cons rfl (fun K hK => ?_) AllReady.nil
              go_simp
              refine hK _ _ ?_
              clear hK K
              refine wpAny_ready (rs := [5]) (by kernel_rfl) (by simp) ?_
              refine AllReady.cons rfl (fun K hK => ?_) AllReady.nil
              go_simp
              go_wp2_with fail
              refine (operation_any o _ 2 2 _).mono ?_
              rintro e w6 ⟨rfl, hb6⟩
              have B6 := (B5.alloc (.cells #[.int .i64 y.k, .int .i64 y.op, .string y.nm, .int .i64 y.v.k, .int .i64 y.v.n, .string y.v.s, .slice A y.v.l.length c, .slice A' y.ar.length c', .int .i64 y2.k, .int .i64 y2.op, .string y2.nm, .int .i64 y2.v.k, .int .i64 y2.v.n, .string y2.v.s, .slice A3 y2.v.l.length c3, .slice A4 y2.ar.length c4] 27 (0, 0))).below hb6 (B5.alloc _).lt
              have qc0 : w6.cell? ⟨w1.heap.size, 0, none⟩ = some (.int .i64 y.k) := B6.cell 0
              have qz0 : w6.frozen? ⟨w1.heap.size, 0, none⟩ = false := B6.frozen 0
              have qc1 : w6.cell? ⟨w1.heap.size, 1, none⟩ = some (.int .i64 y.op) := B6.cell 1
              have qz1 : w6.frozen? ⟨w1.heap.size, 1, none⟩ = false := B6.frozen 1
              have qc2 : w6.cell? ⟨w1.heap.size, 2, none⟩ = some (.string y.nm) := B6.cell 2
              have qz2 : w6.frozen? ⟨w1.heap.size, 2, none⟩ = false := B6.frozen 2
              have qc3 : w6.cell? ⟨w1.heap.size, 3, none⟩ = some (.int .i64 y.v.k) := B6.cell 3
              have qz3 : w6.frozen? ⟨w1.heap.size, 3, none⟩ = false := B6.frozen 3
              have qc4 : w6.cell? ⟨w1.heap.size, 4, none⟩ = some (.int .i64 y.v.n) := B6.cell 4
              have qz4 : w6.frozen? ⟨w1.heap.size, 4, none⟩ = false := B6.frozen 4
              have qc5 : w6.cell? ⟨w1.heap.size, 5, none⟩ = some (.string y.v.s) := B6.cell 5
              have qz5 : w6.frozen? ⟨w1.heap.size, 5, none⟩ = false := B6.frozen 5
              have qc6 : w6.cell? ⟨w1.heap.size, 6, none⟩ = some (.slice A y.v.l.length c) := B6.cell 6
              have qz6 : w6.frozen? ⟨w1.heap.size, 6, none⟩ = false := B6.frozen 6
              have qc7 : w6.cell? ⟨w1.heap.size, 7, none⟩ = some (.slice A' y.ar.length c') := B6.cell 7
              have qz7 : w6.frozen? ⟨w1.heap.size, 7, none⟩ = false := B6.frozen 7
              go_wp2_with fail
              refine wpAny_ready (rs := [6]) (by kernel_rfl) (by simp) ?_
              refine AllReady.cons rfl (fun K hK => ?_) AllReady.nil
              go_simp
              refine hK _ _ ?_
              clear hK K
              refine wpAny_done (by kernel_rfl) ?_ _
              have hs5 := hk5.size
              have hs5' : w4.heap.size ≤ w5.heap.size := by simpa using hs5
              have hs4 := HS4.out
              have hsr2 := hbr.size
              have hyl := HBY.out.lt
              have hgw5 : g < w5.heap.size := hp5.b.lt
              have HPN := Lib.hid (show PaAt (set8 w6 w1.heap.size (.int .i64 4) (.int .i64 o) (.string ⟨#[]⟩) (.int .i64 0) (.int .i64 0) (.string ⟨#[]⟩) (.slice none 0 0) (.slice (some ⟨w5.heap.size, 0, none⟩) 2 2)) g s i4 from ((hp5.alloc (.cells #[.int .i64 y.k, .int .i64 y.op, .string y.nm, .int .i64 y.v.k, .int .i64 y.v.n, .string y.v.s, .slice A y.v.l.length c, .slice A' y.ar.length c', .int .i64 y2.k, .int .i64 y2.op, .string y2.nm, .int .i64 y2.v.k, .int .i64 y2.v.n, .string y2.v.s, .slice A3 y2.v.l.length c3, .slice A4 y2.ar.length c4] 27 (0, 0))).below hb6).kp (set8_far _ _ _ _ _ _ _ _ _ _ g (by omega)))
              have HKN := Lib.hid (show Kp g w (set8 w6 w1.heap.size (.int .i64 4) (.int .i64 o) (.string ⟨#[]⟩) (.int .i64 0) (.int .i64 0) (.string ⟨#[]⟩) (.slice none 0 0) (.slice (some ⟨w5.heap.size, 0, none⟩) 2 2)) from set8_kp ((((HK2.out.trans HK4.out).trans ((Kp.of (Below.refl _ _).drew).trans hk5)).alloc (.cells #[.int .i64 y.k, .int .i64 y.op, .string y.nm, .int .i64 y.v.k, .int .i64 y.v.n, .string y.v.s, .slice A y.v.l.length c, .slice A' y.ar.length c', .int .i64 y2.k, .int .i64 y2.op, .string y2.nm, .int .i64 y2.v.k, .int .i64 y2.v.n, .string y2.v.s, .slice A3 y2.v.l.length c3, .slice A4 y2.ar.length c4] 27 (0, 0))).trans (Kp.of hb6)) (by omega) _ _ _ _ _ _ _ _)
              have HBN := Lib.hid (show Blk (set8 w6 w1.heap.size (.int .i64 4) (.int .i64 o) (.string ⟨#[]⟩) (.int .i64 0) (.int .i64 0) (.string ⟨#[]⟩) (.slice none 0 0) (.slice (some ⟨w5.heap.size, 0, none⟩) 2 2)) w.heap.size 27 #[.int .i64 0, .int .i64 0, .string ⟨#[]⟩, .int .i64 0, .int .i64 0, .string ⟨#[]⟩, .slice none 0 0, .slice none 0 0] by
                have h1 := ((((HBR4.out.below (Below.refl _ _).drew HBR4.out.lt).kp hk5 (by omega)).alloc (.cells #[.int .i64 y.k, .int .i64 y.op, .string y.nm, .int .i64 y.v.k, .int .i64 y.v.n, .string y.v.s, .slice A y.v.l.length c, .slice A' y.ar.length c', .int .i64 y2.k, .int .i64 y2.op, .string y2.nm, .int .i64 y2.v.k, .int .i64 y2.v.n, .string y2.v.s, .slice A3 y2.v.l.length c3, .slice A4 y2.ar.length c4] 27 (0, 0))).below hb6 (by have := hb6.size; simp at *; omega))
                unfold Blk
                rw [set8_far _ _ _ _ _ _ _ _ _ _ _ (by omega)]
                exact h1)
              have HYN := Lib.hid (set8_in (b := w1.heap.size) (two_in o (((HY4.out.keep (Stay.of (Below.refl _ _).drew)).up (by simp)).kpq hk5 (fun k hk => by omega)) (HX5.out.imp (fun k hk _ => by simp at hk; exact ⟨by omega, by omega⟩)) hb6 (fun k hk => ⟨by omega, by omega⟩)) (fun k hk => hk.2) (.int .i64 4) (.int .i64 o) (.string ⟨#[]⟩) (.int .i64 0) (.int .i64 0) (.string ⟨#[]⟩) (.slice none 0 0) (.slice (some ⟨w5.heap.size, 0, none⟩) 2 2))
              have hRN : R = Pz s.data.toList.length .sumL [mkOp o [y, y2]] (wordsOf s.data.toList i4) := by
                rw [HRr.out, Pz_eq]
                dsimp only [stepP]
                rw [HLW.out, if_neg (by rw [← HON.out]; exact HO0.out), ← HON.out, ← HLW.out, ← HTL.out.1, HR2.out]
                rfl
              have HRN := Lib.hid hRN
              have HLN := Lib.hid (show (wordsOf s.data.toList i4).length < (wordsOf s.data.toList i2).length by
                have h1 := Pz_len HR2.out
                have h2 := HTL.out.2
                omega)
              clear hRN
              try go_wp2_with fail
              go_roundw
              case rel => exact ⟨mkOp o [y, y2], none, some ⟨w5.heap.size, 0, none⟩, 0, 2, i4, Lib.hid (set8_blk B6 _ _ _ _ _ _ _ _), HYN, HPN, HKN, HBN, HRN, Lib.hid (by have h1 := HLN.out; have h2 := HLr.out; omega)⟩
              case measure =>
                have h1 : cntW (set8 w6 w1.heap.size (.int .i64 4) (.int .i64 o) (.string ⟨#[]⟩) (.int .i64 0) (.int .i64 0) (.string ⟨#[]⟩) (.slice none 0 0) (.slice (some ⟨w5.heap.size, 0, none⟩) 2 2)) g s < (wordsOf s.data.toList i2).length := by rw [cnt_eq HPN.out]; exact HLN.out
                have h3 := cnt_eq HPr.out
                rw [← h3] at h1
                exact h1
set_option maxHeartbeats 8000000 in
set_option maxRecDepth 100000 in
theorem chain_minus (g : Nat) (s : ByteArray) (i : Nat) (w : World) (h : PaAt w g s i) (hm : TM w g) (L : List Tok) (hL : wordsOf s.data.toList i = L) (t : Nat) (ht : t ≠ g) (hT : Blk w t 83 (flatS prodL).toArray) (hP : ∀ L', L'.length ≤ L.length → PSpec 151 .minus s L') :
    Calls Tryz.prog 134 #[.pointer (some ⟨g, 0, none⟩), .slice (some ⟨t, 0, none⟩) 3 3, .func (.func 151) #[.pointer (some ⟨g, 0, none⟩)] #[]] w fun e w' => PRet w g s ((Pz s.data.toList.length .minus [] L).bind fun es l1 => Pz s.data.toList.length .productL es l1) e w' := by
  have HPP := Lib.hid hP
  have hlt := h.b.lt
  have H1 := Lib.hid (fun W hp hm => hP L (Nat.le_refl _) g i W hp hm hL)
  have HM := Lib.hid hm
  obtain ⟨r, hr⟩ : ∃ r, Pz s.data.toList.length .minus [] L = r := ⟨_, rfl⟩
  rw [hr] at H1 ⊢
  have HR := Lib.hid hr
  have HPA := Lib.hid h
  have HTB := Lib.hid hT
  have HTG := Lib.hid ht
  clear hr hP h hm hT ht
  go_enter Tryz.func134, Tryz.ntmps134
  go_wp2_with fail
  obtain ⟨W, hW⟩ : ∃ W, W = w.alloc (.cells #[.int .i64 0, .int .i64 0, .string ⟨#[]⟩, .int .i64 0, .int .i64 0, .string ⟨#[]⟩, .slice none 0 0, .slice none 0 0] 27 (0, 0)) := ⟨_, rfl⟩
  have hkW : Kp g w W := by rw [hW]; exact (kp_refl g w).alloc _
  have HPW := Lib.hid (show PaAt W g s i by rw [hW]; exact HPA.out.alloc _)
  have BR : Blk W w.heap.size 27 #[.int .i64 0, .int .i64 0, .string ⟨#[]⟩, .int .i64 0, .int .i64 0, .string ⟨#[]⟩, .slice none 0 0, .slice none 0 0] := by rw [hW]; exact Blk.new w _ _
  have hWs : w.heap.size < W.heap.size := BR.lt
  rw [← hW]
  clear hW
  refine (H1.out W HPW.out (HM.out.kp hkW)).mono ?_
  cases r with
  | err k =>
    rintro e w1 ⟨rfl, hk1⟩
    go_wp2_with fail
    exact ⟨rfl, rfl, hkW.trans hk1⟩
  | ok es l1 =>
    rintro e w1 ⟨x, i1, cs1, rfl, rfl, rfl, hx1, hp1, hk1⟩
    have HX1 := Lib.hid hx1
    obtain ⟨hn1, hs1, hl1, ha1, hxx1, hrr1, hii1⟩ := hx1
    rename_i A1 c1 A2 c2 csi1
    clear hxx1 hrr1 hii1 hn1 hs1 hl1 ha1
    have exa1 : (exCells x A1 c1 A2 c2).toArray = #[.int .i64 x.k, .int .i64 x.op, .string x.nm, .int .i64 x.v.k, .int .i64 x.v.n, .string x.v.s, .slice A1 x.v.l.length c1, .slice A2 x.ar.length c2] := rfl
    rw [exa1]
    clear exa1
    have B1 : Blk w1 w.heap.size 27 #[.int .i64 0, .int .i64 0, .string ⟨#[]⟩, .int .i64 0, .int .i64 0, .string ⟨#[]⟩, .slice none 0 0, .slice none 0 0] := by unfold Blk; rw [hk1.block _ BR.lt (fun e => by injection e with e; omega)]; exact BR
    have hsW1 := hk1.size
    have HP1 := Lib.hid hp1
    clear BR hp1
    go_wp2_with fail
    obtain ⟨W1, hW1⟩ : ∃ W1, W1 = w1.alloc (.cells #[.int .i64 x.k, .int .i64 x.op, .string x.nm, .int .i64 x.v.k, .int .i64 x.v.n, .string x.v.s, .slice A1 x.v.l.length c1, .slice A2 x.ar.length c2] 27 (0, 0)) := ⟨_, rfl⟩
    have HK1 := Lib.hid (show Kp g w W1 by rw [hW1]; exact (hkW.trans hk1).alloc _)
    have HST := Lib.hid (show Stay (fun b => W.heap.size ≤ b) w1 W1 by rw [hW1]; exact Stay.of ((Below.refl _ _).alloc (Nat.le_refl _) _))
    have HPW1 := Lib.hid (show PaAt W1 g s i1 by rw [hW1]; exact HP1.out.alloc _)
    have HBR1 := Lib.hid (show Blk W1 w.heap.size 27 #[.int .i64 0, .int .i64 0, .string ⟨#[]⟩, .int .i64 0, .int .i64 0, .string ⟨#[]⟩, .slice none 0 0, .slice none 0 0] by rw [hW1]; exact B1.alloc _)
    have HBX1 := Lib.hid (show Blk W1 w1.heap.size 27 #[.int .i64 x.k, .int .i64 x.op, .string x.nm, .int .i64 x.v.k, .int .i64 x.v.n, .string x.v.s, .slice A1 x.v.l.length c1, .slice A2 x.ar.length c2] by rw [hW1]; exact Blk.new w1 _ _)
    have HXW1 := Lib.hid (show ExIn W1 (fun b => W.heap.size ≤ b ∧ b ≠ w1.heap.size) W1.heap.size x (exCells x A1 c1 A2 c2) by
      have h1 := HX1.out.imp (q := fun b => W.heap.size ≤ b ∧ b ≠ w1.heap.size) (fun k hk hl => ⟨hk, by omega⟩)
      rw [hW1]
      exact (h1.keep (Stay.of ((Below.refl _ _).alloc (Nat.le_refl _) _))).up (by simp))
    have hsz1 : W1.heap.size = w1.heap.size + 1 := by rw [hW1]; simp
    have HTW1 := Lib.hid (show Blk W1 t 83 (flatS prodL).toArray by
      have h1 := HK1.out.block t HTB.out.lt (fun e => HTG.out (by injection e))
      unfold Blk
      rw [h1]; exact HTB.out)
    have htlt : t < w.heap.size := HTB.out.lt
    rw [← hW1]
    clear hW1 B1
    obtain ⟨R, hR⟩ : ∃ R, Pz s.data.toList.length .productL [x] (wordsOf s.data.toList i1) = R := ⟨_, rfl⟩
    have HRR := Lib.hid hR.symm
    have hgoal : ((Res.ok [x] (wordsOf s.data.toList i1)).bind fun es l1 => Pz s.data.toList.length .productL es l1) = R := hR
    have HG := Lib.hid hgoal
    have HL1 := Lib.hid (Pz_len HR.out)
    clear hgoal hR
    go_loopw [8, 10, 15] (fun _ _ _ wr => ∃ (y : Ex) (A A' : Option Addr) (c c' i2 : Nat), Hid (Blk wr w1.heap.size 27 #[.int .i64 y.k, .int .i64 y.op, .string y.nm, .int .i64 y.v.k, .int .i64 y.v.n, .string y.v.s, .slice A y.v.l.length c, .slice A' y.ar.length c']) ∧ Hid (ExIn wr (fun b => W.heap.size ≤ b ∧ b ≠ w1.heap.size) wr.heap.size y (exCells y A c A' c')) ∧ Hid (PaAt wr g s i2) ∧ Hid (Kp g w wr) ∧ Hid (Blk wr w.heap.size 27 #[.int .i64 0, .int .i64 0, .string ⟨#[]⟩, .int .i64 0, .int .i64 0, .string ⟨#[]⟩, .slice none 0 0, .slice none 0 0]) ∧ Hid (R = Pz s.data.toList.length .productL [y] (wordsOf s.data.toList i2)) ∧ Hid ((wordsOf s.data.toList i2).length ≤ L.length)) (fun _ _ _ wr => cntW wr g s)
    case atStart => exact ⟨x, A1, A2, c1, c2, i1, HBX1, HXW1, HPW1, HK1, HBR1, HRR, HL1⟩
    case round =>
      obtain ⟨y, A, A', c, c', i2, HBY, HY, HPr, HKr, HBr, HRr, HLr⟩ := hrel
      have HTr := Lib.hid (show Blk wr t 83 (flatS prodL).toArray by
        have h1 := HKr.out.block t HTB.out.lt (fun e => HTG.out (by injection e))
        unfold Blk
        rw [h1]; exact HTB.out)
      have htr : t < wr.heap.size := HTr.out.lt
      have HI2 := Lib.hid (fun (W' : World) (hp : PaAt W' g s i2) (word : ByteArray) (hw : word.data.toList ≠ []) => (show Calls Tryz.prog 84 #[.pointer (some ⟨g, 0, none⟩), .string word] W' fun e w' => e = .returned (.bool (isW (wordsOf s.data.toList i2) word.data.toList)) ∧ W' = w' from by
        have h1 := is_any g s i2 W' hp word.data.toList hw
        rwa [tb_of] at h1))
      obtain ⟨LW, hLW⟩ : ∃ LW, wordsOf s.data.toList i2 = LW := ⟨_, rfl⟩
      have HLW := Lib.hid hLW
      rw [hLW] at HI2
      clear hLW
      go_wp2_with fail
      go_loopw [8, 10, 15] (fun op _ ix wz => ∃ k : Nat, ∃ o : Int, k ≤ 3 ∧ ix = .int .i64 k ∧ op = .int .i64 o ∧ Hid (o = lastOp LW (prodL.take k)) ∧ Below wr.heap.size wr wz) (fun _ _ ix _ => 3 - (intOf ix).toNat)
      case atStart => exact ⟨0, 0, Nat.zero_le _, rfl, rfl, Lib.hid rfl, Below.refl _ _⟩
      case round =>
        obtain ⟨k, o, hk, rfl, rfl, HOP, hbr⟩ := hrel
        have hsr := hbr.size
        have HPz := Lib.hid (HPr.out.below hbr)
        by_cases hklt : k < 3
        · have hlt' : k < prodL.length := hklt
          obtain ⟨ad, ci, had, -, hci, hcell⟩ := (signs_at (HTr.out.below hbr htr) (Nat.lt_of_lt_of_le htr hsr) (by decide)).at_ hlt'
          injection had with had
          subst had
          obtain ⟨d, hed⟩ : ∃ d, prodL[k] = d := ⟨_, rfl⟩
          have hdm : d ∈ prodL := by rw [← hed]; exact List.getElem_mem hlt'
          have HSN := Lib.hid (show lastOp LW (prodL.take (k + 1)) = if isW LW d.1.data.toList then d.2 else lastOp LW (prodL.take k) by rw [List.take_succ_eq_append_getElem hlt', hed, last_snoc])
          rw [hed] at hci
          have HLT := Lib.hid hklt
          have hwne : d.1.data.toList ≠ [] := by
            have h1 : (prodL.all fun d => decide (d.1.data.toList ≠ [])) = true := by decide
            have h2 := List.all_eq_true.1 h1 d hdm
            rwa [decide_eq_true_iff] at h2
          obtain ⟨dw, dop⟩ := d
          have hci2 : ci = [.string dw, .int .i64 dop] := hci
          subst hci2
          have fc0 : wr.cell? ⟨t, k * 2, none⟩ = some (.string dw) := by have h := hcell 0 _ rfl; simpa [addr_add] using h
          have fc1 : wr.cell? ⟨t, k * 2 + 1, none⟩ = some (.int .i64 dop) := by have h := hcell 1 _ rfl; simpa [addr_add] using h
          have hk0 : (0 : Int) ≤ (k : Nat) := by omega
          have hk1 : (k : Int) < 3 := by omega
          have HIW := Lib.hid (HI2.out (wr.alloc (.cells #[.string dw, .int .i64 dop] 83 (0, 0))) (HPz.out.alloc _) dw hwne)
          clear hci hcell hed hdm hlt' hwne
          obtain ⟨b, hb⟩ : ∃ b, isW LW dw.data.toList = b := ⟨_, rfl⟩
          rw [show isW LW (dw, dop).1.data.toList = b from hb] at HSN
          rw [hb] at HIW
          clear hb
          cases b
          · go_wp2_with (go_at_call 84; (with_reducible refine HIW.out.mono ?_); rintro e w3 ⟨rfl, rfl⟩)
            go_roundw
            case rel => exact ⟨k + 1, o, HLT.out, by go_num, rfl, Lib.hid (by rw [HSN.out, ← HOP.out]; rfl), hbr.alloc hsr _⟩
            case measure =>
              have := HLT.out
              simp [intOf]
              omega
          · go_wp2_with (go_at_call 84; (with_reducible refine HIW.out.mono ?_); rintro e w3 ⟨rfl, rfl⟩)
            go_roundw
            case rel => exact ⟨k + 1, dop, HLT.out, by go_num, rfl, Lib.hid (by rw [HSN.out]; rfl), hbr.alloc hsr _⟩
            case measure =>
              have := HLT.out
              simp [intOf]
              omega
        · have HON := Lib.hid (show o = signOf 17 19 LW by
            have h := HOP.out
            rw [List.take_of_length_le (show prodL.length ≤ k by show 3 ≤ k; omega)] at h
            rw [h, last_prod])
          clear HOP
          have HBY2 := Lib.hid (HBY.out.below hbr HBY.out.lt)
          have HBR2 := Lib.hid (HBr.out.below hbr HBr.out.lt)
          have HY2 := Lib.hid ((HY.out.keep (Stay.of hbr)).up hbr.size)
          have HK2 := Lib.hid (HKr.out.trans (Kp.of hbr))
          by_cases ho : o = 0
          · subst ho
            have B2 := HBY2.out
            have B3 := HBR2.out
            have yc0 : wr.cell? ⟨w1.heap.size, 0, none⟩ = some (.int .i64 y.k) := B2.cell 0
            have yc1 : wr.cell? ⟨w1.heap.size, 1, none⟩ = some (.int .i64 y.op) := B2.cell 1
            have yc2 : wr.cell? ⟨w1.heap.size, 2, none⟩ = some (.string y.nm) := B2.cell 2
            have yc3 : wr.cell? ⟨w1.heap.size, 3, none⟩ = some (.int .i64 y.v.k) := B2.cell 3
            have yc4 : wr.cell? ⟨w1.heap.size, 4, none⟩ = some (.int .i64 y.v.n) := B2.cell 4
            have yc5 : wr.cell? ⟨w1.heap.size, 5, none⟩ = some (.string y.v.s) := B2.cell 5
            have yc6 : wr.cell? ⟨w1.heap.size, 6, none⟩ = some (.slice A y.v.l.length c) := B2.cell 6
            have yc7 : wr.cell? ⟨w1.heap.size, 7, none⟩ = some (.slice A' y.ar.length c') := B2.cell 7
            have rc0 : wr.cell? ⟨w.heap.size, 0, none⟩ = some (.int .i64 0) := B3.cell 0
            have rz0 : wr.frozen? ⟨w.heap.size, 0, none⟩ = false := B3.frozen 0
            have rc1 : wr.cell? ⟨w.heap.size, 1, none⟩ = some (.int .i64 0) := B3.cell 1
            have rz1 : wr.frozen? ⟨w.heap.size, 1, none⟩ = false := B3.frozen 1
            have rc2 : wr.cell? ⟨w.heap.size, 2, none⟩ = some (.string ⟨#[]⟩) := B3.cell 2
            have rz2 : wr.frozen? ⟨w.heap.size, 2, none⟩ = false := B3.frozen 2
            have rc3 : wr.cell? ⟨w.heap.size, 3, none⟩ = some (.int .i64 0) := B3.cell 3
            have rz3 : wr.frozen? ⟨w.heap.size, 3, none⟩ = false := B3.frozen 3
            have rc4 : wr.cell? ⟨w.heap.size, 4, none⟩ = some (.int .i64 0) := B3.cell 4
            have rz4 : wr.frozen? ⟨w.heap.size, 4, none⟩ = false := B3.frozen 4
            have rc5 : wr.cell? ⟨w.heap.size, 5, none⟩ = some (.string ⟨#[]⟩) := B3.cell 5
            have rz5 : wr.frozen? ⟨w.heap.size, 5, none⟩ = false := B3.frozen 5
            have rc6 : wr.cell? ⟨w.heap.size, 6, none⟩ = some (.slice none 0 0) := B3.cell 6
            have rz6 : wr.frozen? ⟨w.heap.size, 6, none⟩ = false := B3.frozen 6
            have rc7 : wr.cell? ⟨w.heap.size, 7, none⟩ = some (.slice none 0 0) := B3.cell 7
            have rz7 : wr.frozen? ⟨w.heap.size, 7, none⟩ = false := B3.frozen 7
            go_wp2_with fail
            refine bodyPost_ret (v := .agg #[.int .i64 y.k, .int .i64 y.op, .string y.nm, .int .i64 y.v.k, .int .i64 y.v.n, .string y.v.s, .slice A y.v.l.length c, .slice A' y.ar.length c']) (by simp [results, Tryz.results134, go_sem, rc0, rc1, rc2, rc3, rc4, rc5, rc6, rc7]) rfl ?_
            have hend : R = .ok [y] (wordsOf s.data.toList i2) := by rw [HRr.out, Pz_eq]; dsimp only [stepP]; rw [if_pos (by rw [HLW.out]; exact HON.out.symm)]
            rw [HG.out, hend]
            exact ret8 (HY2.out.imp (fun k hk _ => hk.1)) hWs hlt HPz.out HK2.out
          · have HO0 := Lib.hid ho
            have bo : (o == 0) = false := by simp [ho]
            have htl := words_tail' (s := s) (i := i2) (by rw [HLW.out]; exact sign_words (by rw [← HON.out]; exact ho))
            have HN := Lib.hid (next_any g s i2 wr HPz.out)
            obtain ⟨i3, hi3⟩ : ∃ i3, curAt s i2 + (curTx s i2).length = i3 := ⟨_, rfl⟩
            rw [hi3] at HN htl
            have HTL := Lib.hid htl
            clear hi3 htl ho
            go_upto_region 12 with (go_at_call 30; (with_reducible refine HN.out.mono ?_); rintro e w4 ⟨rfl, hp4, hk4⟩; have HP4 := Lib.hid hp4; have HK4 := Lib.hid hk4; clear hp4 hk4)
            obtain ⟨r2, hr2⟩ : ∃ r, Pz s.data.toList.length .minus [] (wordsOf s.data.toList i3) = r := ⟨_, rfl⟩
            have HC2 := Lib.hid (fun W' (hp : PaAt W' g s i3) hm => hr2 ▸ HPP.out (wordsOf s.data.toList i3) (by have := HTL.out.2; have := HLr.out; rw [HLW.out] at *; omega) g i3 W' hp hm rfl)
            have HR2 := Lib.hid hr2
            have HM4 := Lib.hid (HM.out.kp (HK2.out.trans HK4.out))
            have HB4 := Lib.hid (HBY2.out.kp HK4.out (by omega))
            have HBR4 := Lib.hid (HBR2.out.kp HK4.out (by omega))
            have HY4 := Lib.hid (HY2.out.kpq HK4.out (fun k hk => by omega))
            have HS4 := Lib.hid HK4.out.size
            clear hr2
            have B4 := HB4.out
            have yc0 : w4.cell? ⟨w1.heap.size, 0, none⟩ = some (.int .i64 y.k) := B4.cell 0
            have yc1 : w4.cell? ⟨w1.heap.size, 1, none⟩ = some (.int .i64 y.op) := B4.cell 1
            have yc2 : w4.cell? ⟨w1.heap.size, 2, none⟩ = some (.string y.nm) := B4.cell 2
            have yc3 : w4.cell? ⟨w1.heap.size, 3, none⟩ = some (.int .i64 y.v.k) := B4.cell 3
            have yc4 : w4.cell? ⟨w1.heap.size, 4, none⟩ = some (.int .i64 y.v.n) := B4.cell 4
            have yc5 : w4.cell? ⟨w1.heap.size, 5, none⟩ = some (.string y.v.s) := B4.cell 5
            have yc6 : w4.cell? ⟨w1.heap.size, 6, none⟩ = some (.slice A y.v.l.length c) := B4.cell 6
            have yc7 : w4.cell? ⟨w1.heap.size, 7, none⟩ = some (.slice A' y.ar.length c') := B4.cell 7
            cases r2 with
            | err k2 =>
              have hend : R = .err k2 := by rw [HRr.out, Pz_eq]; dsimp only [stepP]; rw [HLW.out, if_neg (by rw [← HON.out]; exact HO0.out), ← HLW.out, ← HTL.out.1, HR2.out]; rfl
              have HEND := Lib.hid hend
              clear hend
              refine wp_region_any (by kernel_rfl) ?_
              change wpAny _ _ _ _ _ _ _ (World.drew _)
              refine wpAny_take (i := 0) (v := ?v5) rfl (by kernel_rfl) (by kernel_rfl) (by kernel_rfl) (fun _ _ _ h => h) (Or.inl ⟨by rfl, ?y5⟩) ?r5
              case y5 =>
                intro w
                go_simp
                all_goals with_reducible rfl
              refine wpAny_take (i := 2) (v := ?v6) rfl (by kernel_rfl) (by kernel_rfl) (by kernel_rfl) (fun _ _ _ h => h) (Or.inl ⟨by rfl, ?y6⟩) ?r6
              case y6 =>
                intro w
                go_simp
                all_goals with_reducible rfl
              refine wpAny_ready (rs := [1, 3]) (by kernel_rfl) (by simp) ?_
              refine AllReady.cons rfl (fun K hK => ?_) ?_
              · go_simp
                refine hK _ _ ?_
                clear hK K
                refine wpAny_ready (rs := [3]) (by kernel_rfl) (by simp) ?_
                refine AllReady.cons rfl (fun K hK => ?_) AllReady.nil
                go_simp
                go_wp2_with fail
                refine (HC2.out _ (HP4.out.below (Below.refl _ _).drew) (HM4.out.below (Below.refl _ _).drew)).mono ?_
                rintro e w5 ⟨rfl, hk5⟩
                go_wp2_with fail
                refine ⟨rfl, ?_⟩
                rw [HG.out, HEND.out]
                exact ⟨rfl, (HK2.out.trans HK4.out).trans ((Kp.of (Below.refl _ _).drew).trans hk5)⟩
              refine AllReady.cons rfl (fun K hK => ?_) AllReady.nil
              go_simp
              go_wp2_with fail
              refine (HC2.out _ (HP4.out.below (Below.refl _ _).drew) (HM4.out.below (Below.refl _ _).drew)).mono ?_
              rintro e w5 ⟨rfl, hk5⟩
              go_wp2_with fail
              refine ⟨rfl, ?_⟩
              rw [HG.out, HEND.out]
              exact ⟨rfl, (HK2.out.trans HK4.out).trans ((Kp.of (Below.refl _ _).drew).trans hk5)⟩
            | ok es2 l2 =>
              refine wp_region_any (by kernel_rfl) ?_
              change wpAny _ _ _ _ _ _ _ (World.drew _)
              refine wpAny_take (i := 0) (v := ?v7) rfl (by kernel_rfl) (by kernel_rfl) (by kernel_rfl) (fun _ _ _ h => h) (Or.inl ⟨by rfl, ?y7⟩) ?r7
              case y7 =>
                intro w
                go_simp
                all_goals with_reducible rfl
              refine wpAny_take (i := 2) (v := ?v8) rfl (by kernel_rfl) (by kernel_rfl) (by kernel_rfl) (fun _ _ _ h => h) (Or.inl ⟨by rfl, ?y8⟩) ?r8
              case y8 =>
                intro w
                go_simp
                all_goals with_reducible rfl
              refine wpAny_ready (rs := [1, 3]) (by kernel_rfl) (by simp) ?_
              refine AllReady.cons rfl (fun K hK => ?_) ?_
              · go_simp
                refine hK _ _ ?_
                clear hK K
                refine wpAny_ready (rs := [3]) (by kernel_rfl) (by simp) ?_
                refine AllReady.cons rfl (fun K hK => ?_) AllReady.nil
                go_simp
                go_wp2_with fail
                refine (HC2.out _ (HP4.out.below (Below.refl _ _).drew) (HM4.out.below (Below.refl _ _).drew)).mono ?_
                rintro e w5 ⟨y2, i4, cs5, rfl, rfl, rfl, hx5, hp5, hk5⟩
                have HX5 := Lib.hid hx5
                obtain ⟨hn5, hs5, hl5, ha5, hxx5, hrr5, hii5⟩ := hx5
                rename_i A3 c3 A4 c4 csi5
                clear hxx5 hrr5 hii5 hn5 hs5 hl5 ha5
                have exa5 : (exCells y2 A3 c3 A4 c4).toArray = #[.int .i64 y2.k, .int .i64 y2.op, .string y2.nm, .int .i64 y2.v.k, .int .i64 y2.v.n, .string y2.v.s, .slice A3 y2.v.l.length c3, .slice A4 y2.ar.length c4] := rfl
                rw [exa5]
                clear exa5
                have B5 := (HB4.out.below (Below.refl _ _).drew HB4.out.lt).kp hk5 (by omega)
                have uc0 : w5.cell? ⟨w1.heap.size, 0, none⟩ = some (.int .i64 y.k) := B5.cell 0
                have uc1 : w5.cell? ⟨w1.heap.size, 1, none⟩ = some (.int .i64 y.op) := B5.cell 1
                have uc2 : w5.cell? ⟨w1.heap.size, 2, none⟩ = some (.string y.nm) := B5.cell 2
                have uc3 : w5.cell? ⟨w1.heap.size, 3, none⟩ = some (.int .i64 y.v.k) := B5.cell 3
                have uc4 : w5.cell? ⟨w1.heap.size, 4, none⟩ = some (.int .i64 y.v.n) := B5.cell 4
                have uc5 : w5.cell? ⟨w1.heap.size, 5, none⟩ = some (.string y.v.s) := B5.cell 5
                have uc6 : w5.cell? ⟨w1.heap.size, 6, none⟩ = some (.slice A y.v.l.length c) := B5.cell 6
                have uc7 : w5.cell? ⟨w1.heap.size, 7, none⟩ = some (.slice A' y.ar.length c') := B5.cell 7
                go_wp2_with fail
                refine wpAny_ready (rs := [4]) (by kernel_rfl) (by simp) ?_
                refine AllReady.cons rfl (fun K hK => ?_) AllReady.nil
                go_simp
                refine hK _ _ ?_
                clear hK K
                refine wpAny_ready (rs := [5]) (by kernel_rfl) (by simp) ?_
                refine AllReady.cons rfl (fun K hK => ?_) AllReady.nil
                go_simp
                go_wp2_with fail
                refine (operation_any o _ 2 2 _).mono ?_
                rintro e w6 ⟨rfl, hb6⟩
                have B6 := (B5.alloc (.cells #[.int .i64 y.k, .int .i64 y.op, .string y.nm, .int .i64 y.v.k, .int .i64 y.v.n, .string y.v.s, .slice A y.v.l.length c, .slice A' y.ar.length c', .int .i64 y2.k, .int .i64 y2.op, .string y2.nm, .int .i64 y2.v.k, .int .i64 y2.v.n, .string y2.v.s, .slice A3 y2.v.l.length c3, .slice A4 y2.ar.length c4] 27 (0, 0))).below hb6 (B5.alloc _).lt
                have qc0 : w6.cell? ⟨w1.heap.size, 0, none⟩ = some (.int .i64 y.k) := B6.cell 0
                have qz0 : w6.frozen? ⟨w1.heap.size, 0, none⟩ = false := B6.frozen 0
                have qc1 : w6.cell? ⟨w1.heap.size, 1, none⟩ = some (.int .i64 y.op) := B6.cell 1
                have qz1 : w6.frozen? ⟨w1.heap.size, 1, none⟩ = false := B6.frozen 1
                have qc2 : w6.cell? ⟨w1.heap.size, 2, none⟩ = some (.string y.nm) := B6.cell 2
                have qz2 : w6.frozen? ⟨w1.heap.size, 2, none⟩ = false := B6.frozen 2
                have qc3 : w6.cell? ⟨w1.heap.size, 3, none⟩ = some (.int .i64 y.v.k) := B6.cell 3
                have qz3 : w6.frozen? ⟨w1.heap.size, 3, none⟩ = false := B6.frozen 3
                have qc4 : w6.cell? ⟨w1.heap.size, 4, none⟩ = some (.int .i64 y.v.n) := B6.cell 4
                have qz4 : w6.frozen? ⟨w1.heap.size, 4, none⟩ = false := B6.frozen 4
                have qc5 : w6.cell? ⟨w1.heap.size, 5, none⟩ = some (.string y.v.s) := B6.cell 5
                have qz5 : w6.frozen? ⟨w1.heap.size, 5, none⟩ = false := B6.frozen 5
                have qc6 : w6.cell? ⟨w1.heap.size, 6, none⟩ = some (.slice A y.v.l.length c) := B6.cell 6
                have qz6 : w6.frozen? ⟨w1.heap.size, 6, none⟩ = false := B6.frozen 6
                have qc7 : w6.cell? ⟨w1.heap.size, 7, none⟩ = some (.slice A' y.ar.length c') := B6.cell 7
                have qz7 : w6.frozen? ⟨w1.heap.size, 7, none⟩ = false := B6.frozen 7
                go_wp2_with fail
                refine wpAny_ready (rs := [6]) (by kernel_rfl) (by simp) ?_
                refine AllReady.cons rfl (fun K hK => ?_) AllReady.nil
                go_simp
                refine hK _ _ ?_
                clear hK K
                refine wpAny_done (by kernel_rfl) ?_ _
                have hs5 := hk5.size
                have hs5' : w4.heap.size ≤ w5.heap.size := by simpa using hs5
                have hs4 := HS4.out
                have hsr2 := hbr.size
                have hyl := HBY.out.lt
                have hgw5 : g < w5.heap.size := hp5.b.lt
                have HPN := Lib.hid (show PaAt (set8 w6 w1.heap.size (.int .i64 4) (.int .i64 o) (.string ⟨#[]⟩) (.int .i64 0) (.int .i64 0) (.string ⟨#[]⟩) (.slice none 0 0) (.slice (some ⟨w5.heap.size, 0, none⟩) 2 2)) g s i4 from ((hp5.alloc (.cells #[.int .i64 y.k, .int .i64 y.op, .string y.nm, .int .i64 y.v.k, .int .i64 y.v.n, .string y.v.s, .slice A y.v.l.length c, .slice A' y.ar.length c', .int .i64 y2.k, .int .i64 y2.op, .string y2.nm, .int .i64 y2.v.k, .int .i64 y2.v.n, .string y2.v.s, .slice A3 y2.v.l.length c3, .slice A4 y2.ar.length c4] 27 (0, 0))).below hb6).kp (set8_far _ _ _ _ _ _ _ _ _ _ g (by omega)))
                have HKN := Lib.hid (show Kp g w (set8 w6 w1.heap.size (.int .i64 4) (.int .i64 o) (.string ⟨#[]⟩) (.int .i64 0) (.int .i64 0) (.string ⟨#[]⟩) (.slice none 0 0) (.slice (some ⟨w5.heap.size, 0, none⟩) 2 2)) from set8_kp ((((HK2.out.trans HK4.out).trans ((Kp.of (Below.refl _ _).drew).trans hk5)).alloc (.cells #[.int .i64 y.k, .int .i64 y.op, .string y.nm, .int .i64 y.v.k, .int .i64 y.v.n, .string y.v.s, .slice A y.v.l.length c, .slice A' y.ar.length c', .int .i64 y2.k, .int .i64 y2.op, .string y2.nm, .int .i64 y2.v.k, .int .i64 y2.v.n, .string y2.v.s, .slice A3 y2.v.l.length c3, .slice A4 y2.ar.length c4] 27 (0, 0))).trans (Kp.of hb6)) (by omega) _ _ _ _ _ _ _ _)
                have HBN := Lib.hid (show Blk (set8 w6 w1.heap.size (.int .i64 4) (.int .i64 o) (.string ⟨#[]⟩) (.int .i64 0) (.int .i64 0) (.string ⟨#[]⟩) (.slice none 0 0) (.slice (some ⟨w5.heap.size, 0, none⟩) 2 2)) w.heap.size 27 #[.int .i64 0, .int .i64 0, .string ⟨#[]⟩, .int .i64 0, .int .i64 0, .string ⟨#[]⟩, .slice none 0 0, .slice none 0 0] by
                  have h1 := ((((HBR4.out.below (Below.refl _ _).drew HBR4.out.lt).kp hk5 (by omega)).alloc (.cells #[.int .i64 y.k, .int .i64 y.op, .string y.nm, .int .i64 y.v.k, .int .i64 y.v.n, .string y.v.s, .slice A y.v.l.length c, .slice A' y.ar.length c', .int .i64 y2.k, .int .i64 y2.op, .string y2.nm, .int .i64 y2.v.k, .int .i64 y2.v.n, .string y2.v.s, .slice A3 y2.v.l.length c3, .slice A4 y2.ar.length c4] 27 (0, 0))).below hb6 (by have := hb6.size; simp at *; omega))
                  unfold Blk
                  rw [set8_far _ _ _ _ _ _ _ _ _ _ _ (by omega)]
                  exact h1)
                have HYN := Lib.hid (set8_in (b := w1.heap.size) (two_in o (((HY4.out.keep (Stay.of (Below.refl _ _).drew)).up (by simp)).kpq hk5 (fun k hk => by omega)) (HX5.out.imp (fun k hk _ => by simp at hk; exact ⟨by omega, by omega⟩)) hb6 (fun k hk => ⟨by omega, by omega⟩)) (fun k hk => hk.2) (.int .i64 4) (.int .i64 o) (.string ⟨#[]⟩) (.int .i64 0) (.int .i64 0) (.string ⟨#[]⟩) (.slice none 0 0) (.slice (some ⟨w5.heap.size, 0, none⟩) 2 2))
                have hRN : R = Pz s.data.toList.length .productL [mkOp o [y, y2]] (wordsOf s.data.toList i4) := by
                  rw [HRr.out, Pz_eq]
                  dsimp only [stepP]
                  rw [HLW.out, if_neg (by rw [← HON.out]; exact HO0.out), ← HON.out, ← HLW.out, ← HTL.out.1, HR2.out]
                  rfl
                have HRN := Lib.hid hRN
                have HLN := Lib.hid (show (wordsOf s.data.toList i4).length < (wordsOf s.data.toList i2).length by
                  have h1 := Pz_len HR2.out
                  have h2 := HTL.out.2
                  omega)
                clear hRN
                try go_wp2_with fail
                go_roundw
                case rel => exact ⟨mkOp o [y, y2], none, some ⟨w5.heap.size, 0, none⟩, 0, 2, i4, Lib.hid (set8_blk B6 _ _ _ _ _ _ _ _), HYN, HPN, HKN, HBN, HRN, Lib.hid (by have h1 := HLN.out; have h2 := HLr.out; omega)⟩
                case measure =>
                  have h1 : cntW (set8 w6 w1.heap.size (.int .i64 4) (.int .i64 o) (.string ⟨#[]⟩) (.int .i64 0) (.int .i64 0) (.string ⟨#[]⟩) (.slice none 0 0) (.slice (some ⟨w5.heap.size, 0, none⟩) 2 2)) g s < (wordsOf s.data.toList i2).length := by rw [cnt_eq HPN.out]; exact HLN.out
                  have h3 := cnt_eq HPr.out
                  rw [← h3] at h1
                  exact h1
              refine AllReady.cons rfl (fun K hK => ?_) AllReady.nil
              go_simp
              go_wp2_with fail
              refine (HC2.out _ (HP4.out.below (Below.refl _ _).drew) (HM4.out.below (Below.refl _ _).drew)).mono ?_
              rintro e w5 ⟨y2, i4, cs5, rfl, rfl, rfl, hx5, hp5, hk5⟩
              have HX5 := Lib.hid hx5
              obtain ⟨hn5, hs5, hl5, ha5, hxx5, hrr5, hii5⟩ := hx5
              rename_i A3 c3 A4 c4 csi5
              clear hxx5 hrr5 hii5 hn5 hs5 hl5 ha5
              have exa5 : (exCells y2 A3 c3 A4 c4).toArray = #[.int .i64 y2.k, .int .i64 y2.op, .string y2.nm, .int .i64 y2.v.k, .int .i64 y2.v.n, .string y2.v.s, .slice A3 y2.v.l.length c3, .slice A4 y2.ar.length c4] := rfl
              rw [exa5]
              clear exa5
              have B5 := (HB4.out.below (Below.refl _ _).drew HB4.out.lt).kp hk5 (by omega)
              have uc0 : w5.cell? ⟨w1.heap.size, 0, none⟩ = some (.int .i64 y.k) := B5.cell 0
              have uc1 : w5.cell? ⟨w1.heap.size, 1, none⟩ = some (.int .i64 y.op) := B5.cell 1
              have uc2 : w5.cell? ⟨w1.heap.size, 2, none⟩ = some (.string y.nm) := B5.cell 2
              have uc3 : w5.cell? ⟨w1.heap.size, 3, none⟩ = some (.int .i64 y.v.k) := B5.cell 3
              have uc4 : w5.cell? ⟨w1.heap.size, 4, none⟩ = some (.int .i64 y.v.n) := B5.cell 4
              have uc5 : w5.cell? ⟨w1.heap.size, 5, none⟩ = some (.string y.v.s) := B5.cell 5
              have uc6 : w5.cell? ⟨w1.heap.size, 6, none⟩ = some (.slice A y.v.l.length c) := B5.cell 6
              have uc7 : w5.cell? ⟨w1.heap.size, 7, none⟩ = some (.slice A' y.ar.length c') := B5.cell 7
              go_wp2_with fail
              refine wpAny_ready (rs := [1]) (by kernel_rfl) (by simp) ?_
              refine AllReady.cons rfl (fun K hK => ?_) AllReady.nil
              go_simp
              refine hK _ _ ?_
              clear hK K
              refine wpAny_ready (rs := [4]) (by kernel_rfl) (by simp) ?_
              refine AllReady.cons rfl (fun K hK => ?_) AllReady.nil
              go_simp
              refine hK _ _ ?_
              clear hK K
              refine wpAny_ready (rs := [5]) (by kernel_rfl) (by simp) ?_
              refine AllReady.cons rfl (fun K hK => ?_) AllReady.nil
              go_simp
              go_wp2_with fail
              refine (operation_any o _ 2 2 _).mono ?_
              rintro e w6 ⟨rfl, hb6⟩
              have B6 := (B5.alloc (.cells #[.int .i64 y.k, .int .i64 y.op, .string y.nm, .int .i64 y.v.k, .int .i64 y.v.n, .string y.v.s, .slice A y.v.l.length c, .slice A' y.ar.length c', .int .i64 y2.k, .int .i64 y2.op, .string y2.nm, .int .i64 y2.v.k, .int .i64 y2.v.n, .string y2.v.s, .slice A3 y2.v.l.length c3, .slice A4 y2.ar.length c4] 27 (0, 0))).below hb6 (B5.alloc _).lt
              have qc0 : w6.cell? ⟨w1.heap.size, 0, none⟩ = some (.int .i64 y.k) := B6.cell 0
              have qz0 : w6.frozen? ⟨w1.heap.size, 0, none⟩ = false := B6.frozen 0
              have qc1 : w6.cell? ⟨w1.heap.size, 1, none⟩ = some (.int .i64 y.op) := B6.cell 1
              have qz1 : w6.frozen? ⟨w1.heap.size, 1, none⟩ = false := B6.frozen 1
              have qc2 : w6.cell? ⟨w1.heap.size, 2, none⟩ = some (.string y.nm) := B6.cell 2
              have qz2 : w6.frozen? ⟨w1.heap.size, 2, none⟩ = false := B6.frozen 2
              have qc3 : w6.cell? ⟨w1.heap.size, 3, none⟩ = some (.int .i64 y.v.k) := B6.cell 3
              have qz3 : w6.frozen? ⟨w1.heap.size, 3, none⟩ = false := B6.frozen 3
              have qc4 : w6.cell? ⟨w1.heap.size, 4, none⟩ = some (.int .i64 y.v.n) := B6.cell 4
              have qz4 : w6.frozen? ⟨w1.heap.size, 4, none⟩ = false := B6.frozen 4
              have qc5 : w6.cell? ⟨w1.heap.size, 5, none⟩ = some (.string y.v.s) := B6.cell 5
              have qz5 : w6.frozen? ⟨w1.heap.size, 5, none⟩ = false := B6.frozen 5
              have qc6 : w6.cell? ⟨w1.heap.size, 6, none⟩ = some (.slice A y.v.l.length c) := B6.cell 6
              have qz6 : w6.frozen? ⟨w1.heap.size, 6, none⟩ = false := B6.frozen 6
              have qc7 : w6.cell? ⟨w1.heap.size, 7, none⟩ = some (.slice A' y.ar.length c') := B6.cell 7
              have qz7 : w6.frozen? ⟨w1.heap.size, 7, none⟩ = false := B6.frozen 7
              go_wp2_with fail
              refine wpAny_ready (rs := [6]) (by kernel_rfl) (by simp) ?_
              refine AllReady.cons rfl (fun K hK => ?_) AllReady.nil
              go_simp
              refine hK _ _ ?_
              clear hK K
              refine wpAny_done (by kernel_rfl) ?_ _
              have hs5 := hk5.size
              have hs5' : w4.heap.size ≤ w5.heap.size := by simpa using hs5
              have hs4 := HS4.out
              have hsr2 := hbr.size
              have hyl := HBY.out.lt
              have hgw5 : g < w5.heap.size := hp5.b.lt
              have HPN := Lib.hid (show PaAt (set8 w6 w1.heap.size (.int .i64 4) (.int .i64 o) (.string ⟨#[]⟩) (.int .i64 0) (.int .i64 0) (.string ⟨#[]⟩) (.slice none 0 0) (.slice (some ⟨w5.heap.size, 0, none⟩) 2 2)) g s i4 from ((hp5.alloc (.cells #[.int .i64 y.k, .int .i64 y.op, .string y.nm, .int .i64 y.v.k, .int .i64 y.v.n, .string y.v.s, .slice A y.v.l.length c, .slice A' y.ar.length c', .int .i64 y2.k, .int .i64 y2.op, .string y2.nm, .int .i64 y2.v.k, .int .i64 y2.v.n, .string y2.v.s, .slice A3 y2.v.l.length c3, .slice A4 y2.ar.length c4] 27 (0, 0))).below hb6).kp (set8_far _ _ _ _ _ _ _ _ _ _ g (by omega)))
              have HKN := Lib.hid (show Kp g w (set8 w6 w1.heap.size (.int .i64 4) (.int .i64 o) (.string ⟨#[]⟩) (.int .i64 0) (.int .i64 0) (.string ⟨#[]⟩) (.slice none 0 0) (.slice (some ⟨w5.heap.size, 0, none⟩) 2 2)) from set8_kp ((((HK2.out.trans HK4.out).trans ((Kp.of (Below.refl _ _).drew).trans hk5)).alloc (.cells #[.int .i64 y.k, .int .i64 y.op, .string y.nm, .int .i64 y.v.k, .int .i64 y.v.n, .string y.v.s, .slice A y.v.l.length c, .slice A' y.ar.length c', .int .i64 y2.k, .int .i64 y2.op, .string y2.nm, .int .i64 y2.v.k, .int .i64 y2.v.n, .string y2.v.s, .slice A3 y2.v.l.length c3, .slice A4 y2.ar.length c4] 27 (0, 0))).trans (Kp.of hb6)) (by omega) _ _ _ _ _ _ _ _)
              have HBN := Lib.hid (show Blk (set8 w6 w1.heap.size (.int .i64 4) (.int .i64 o) (.string ⟨#[]⟩) (.int .i64 0) (.int .i64 0) (.string ⟨#[]⟩) (.slice none 0 0) (.slice (some ⟨w5.heap.size, 0, none⟩) 2 2)) w.heap.size 27 #[.int .i64 0, .int .i64 0, .string ⟨#[]⟩, .int .i64 0, .int .i64 0, .string ⟨#[]⟩, .slice none 0 0, .slice none 0 0] by
                have h1 := ((((HBR4.out.below (Below.refl _ _).drew HBR4.out.lt).kp hk5 (by omega)).alloc (.cells #[.int .i64 y.k, .int .i64 y.op, .string y.nm, .int .i64 y.v.k, .int .i64 y.v.n, .string y.v.s, .slice A y.v.l.length c, .slice A' y.ar.length c', .int .i64 y2.k, .int .i64 y2.op, .string y2.nm, .int .i64 y2.v.k, .int .i64 y2.v.n, .string y2.v.s, .slice A3 y2.v.l.length c3, .slice A4 y2.ar.length c4] 27 (0, 0))).below hb6 (by have := hb6.size; simp at *; omega))
                unfold Blk
                rw [set8_far _ _ _ _ _ _ _ _ _ _ _ (by omega)]
                exact h1)
              have HYN := Lib.hid (set8_in (b := w1.heap.size) (two_in o (((HY4.out.keep (Stay.of (Below.refl _ _).drew)).up (by simp)).kpq hk5 (fun k hk => by omega)) (HX5.out.imp (fun k hk _ => by simp at hk; exact ⟨by omega, by omega⟩)) hb6 (fun k hk => ⟨by omega, by omega⟩)) (fun k hk => hk.2) (.int .i64 4) (.int .i64 o) (.string ⟨#[]⟩) (.int .i64 0) (.int .i64 0) (.string ⟨#[]⟩) (.slice none 0 0) (.slice (some ⟨w5.heap.size, 0, none⟩) 2 2))
              have hRN : R = Pz s.data.toList.length .productL [mkOp o [y, y2]] (wordsOf s.data.toList i4) := by
                rw [HRr.out, Pz_eq]
                dsimp only [stepP]
                rw [HLW.out, if_neg (by rw [← HON.out]; exact HO0.out), ← HON.out, ← HLW.out, ← HTL.out.1, HR2.out]
                rfl
              have HRN := Lib.hid hRN
              have HLN := Lib.hid (show (wordsOf s.data.toList i4).length < (wordsOf s.data.toList i2).length by
                have h1 := Pz_len HR2.out
                have h2 := HTL.out.2
                omega)
              clear hRN
              try go_wp2_with fail
              go_roundw
              case rel => exact ⟨mkOp o [y, y2], none, some ⟨w5.heap.size, 0, none⟩, 0, 2, i4, Lib.hid (set8_blk B6 _ _ _ _ _ _ _ _), HYN, HPN, HKN, HBN, HRN, Lib.hid (by have h1 := HLN.out; have h2 := HLr.out; omega)⟩
              case measure =>
                have h1 : cntW (set8 w6 w1.heap.size (.int .i64 4) (.int .i64 o) (.string ⟨#[]⟩) (.int .i64 0) (.int .i64 0) (.string ⟨#[]⟩) (.slice none 0 0) (.slice (some ⟨w5.heap.size, 0, none⟩) 2 2)) g s < (wordsOf s.data.toList i2).length := by rw [cnt_eq HPN.out]; exact HLN.out
                have h3 := cnt_eq HPr.out
                rw [← h3] at h1
                exact h1
set_option maxHeartbeats 1000000 in
set_option maxRecDepth 100000 in
theorem sum_spec (s : ByteArray) (L : List Tok) (h : ∀ L', L'.length ≤ L.length → PSpec 135 .product s L') : PSpec 112 .sum s L := by
  intro g i w hp hm hL
  have HC := Lib.hid (fun W t (hpW : PaAt W g s i) (hmW : TM W g) (ht : t ≠ g) hT => chain_prod g s i W hpW hmW L hL t ht hT h)
  rw [show ((Pz s.data.toList.length .product [] L).bind fun es l1 => Pz s.data.toList.length .sumL es l1) = Pz s.data.toList.length .sum [] L from by rw [Pz_eq _ .sum]; rfl] at HC
  have HPA := Lib.hid hp
  have HM := Lib.hid hm
  have hlt := hp.b.lt
  obtain ⟨r, hr⟩ : ∃ r, Pz s.data.toList.length .sum [] L = r := ⟨_, rfl⟩
  rw [hr] at HC ⊢
  clear hp hm hr
  go_enter Tryz.func112, Tryz.ntmps112
  go_upto_region 1 with (fail)
  obtain ⟨W, hW⟩ : ∃ W, W = w.alloc (.cells #[.int .i64 0, .int .i64 0, .string ⟨#[]⟩, .int .i64 0, .int .i64 0, .string ⟨#[]⟩, .slice none 0 0, .slice none 0 0] 27 (0, 0)) := ⟨_, rfl⟩
  have hkW : Kp g w W := by rw [hW]; exact (kp_refl g w).alloc _
  have HPW := Lib.hid (show PaAt W g s i by rw [hW]; exact HPA.out.alloc _)
  have BR : Blk W w.heap.size 27 #[.int .i64 0, .int .i64 0, .string ⟨#[]⟩, .int .i64 0, .int .i64 0, .string ⟨#[]⟩, .slice none 0 0, .slice none 0 0] := by rw [hW]; exact Blk.new w _ _
  have hWs : w.heap.size < W.heap.size := BR.lt
  rw [← hW]
  clear hW
  go_wp2_with fail
  refine (sumsB_any W).mono ?_
  rintro e Wt ⟨rfl, hbt, hbw⟩
  have HBT := Lib.hid hbt
  have HPT := Lib.hid (HPW.out.below hbw)
  have HKT := Lib.hid (hkW.trans (Kp.of hbw))
  have BRT := BR.below hbw BR.lt
  have hszt := hbw.size
  have hgW : g < W.heap.size := HPW.out.b.lt
  clear hbt hbw
  go_wp2_with fail
  refine (HC.out Wt W.heap.size HPT.out (HM.out.kp HKT.out) (by omega) HBT.out).mono ?_
  cases r with
  | err k =>
    rintro e w1 ⟨rfl, hk1⟩
    go_wp2_with fail
    exact ⟨rfl, rfl, HKT.out.trans hk1⟩
  | ok es l1 =>
    rintro e w1 ⟨x, i1, cs1, rfl, rfl, rfl, hx1, hp1, hk1⟩
    have HX1 := Lib.hid hx1
    obtain ⟨hn1, hs1, hl1, ha1, hxx1, hrr1, hii1⟩ := hx1
    rename_i A1 c1 A2 c2 csi1
    clear hxx1 hrr1 hii1 hn1 hs1 hl1 ha1
    have exa1 : (exCells x A1 c1 A2 c2).toArray = #[.int .i64 x.k, .int .i64 x.op, .string x.nm, .int .i64 x.v.k, .int .i64 x.v.n, .string x.v.s, .slice A1 x.v.l.length c1, .slice A2 x.ar.length c2] := rfl
    rw [exa1]
    clear exa1
    have B1 : Blk w1 w.heap.size 27 #[.int .i64 0, .int .i64 0, .string ⟨#[]⟩, .int .i64 0, .int .i64 0, .string ⟨#[]⟩, .slice none 0 0, .slice none 0 0] := BRT.kp hk1 (by omega)
    have rc0 : w1.cell? ⟨w.heap.size, 0, none⟩ = some (.int .i64 0) := B1.cell 0
    have rz0 : w1.frozen? ⟨w.heap.size, 0, none⟩ = false := B1.frozen 0
    have rc1 : w1.cell? ⟨w.heap.size, 1, none⟩ = some (.int .i64 0) := B1.cell 1
    have rz1 : w1.frozen? ⟨w.heap.size, 1, none⟩ = false := B1.frozen 1
    have rc2 : w1.cell? ⟨w.heap.size, 2, none⟩ = some (.string ⟨#[]⟩) := B1.cell 2
    have rz2 : w1.frozen? ⟨w.heap.size, 2, none⟩ = false := B1.frozen 2
    have rc3 : w1.cell? ⟨w.heap.size, 3, none⟩ = some (.int .i64 0) := B1.cell 3
    have rz3 : w1.frozen? ⟨w.heap.size, 3, none⟩ = false := B1.frozen 3
    have rc4 : w1.cell? ⟨w.heap.size, 4, none⟩ = some (.int .i64 0) := B1.cell 4
    have rz4 : w1.frozen? ⟨w.heap.size, 4, none⟩ = false := B1.frozen 4
    have rc5 : w1.cell? ⟨w.heap.size, 5, none⟩ = some (.string ⟨#[]⟩) := B1.cell 5
    have rz5 : w1.frozen? ⟨w.heap.size, 5, none⟩ = false := B1.frozen 5
    have rc6 : w1.cell? ⟨w.heap.size, 6, none⟩ = some (.slice none 0 0) := B1.cell 6
    have rz6 : w1.frozen? ⟨w.heap.size, 6, none⟩ = false := B1.frozen 6
    have rc7 : w1.cell? ⟨w.heap.size, 7, none⟩ = some (.slice none 0 0) := B1.cell 7
    have rz7 : w1.frozen? ⟨w.heap.size, 7, none⟩ = false := B1.frozen 7
    go_wp2_with fail
    refine bodyPost_ret (v := .agg #[.int .i64 x.k, .int .i64 x.op, .string x.nm, .int .i64 x.v.k, .int .i64 x.v.n, .string x.v.s, .slice A1 x.v.l.length c1, .slice A2 x.ar.length c2]) (by simp [results, Tryz.results112, go_sem, rc0, rc1, rc2, rc3, rc4, rc5, rc6, rc7]) rfl ?_
    exact ret8 (L := Wt.heap.size) HX1.out (by omega) hlt hp1 (HKT.out.trans hk1)
set_option maxHeartbeats 1000000 in
set_option maxRecDepth 100000 in
theorem product_spec (s : ByteArray) (L : List Tok) (h : ∀ L', L'.length ≤ L.length → PSpec 151 .minus s L') : PSpec 135 .product s L := by
  intro g i w hp hm hL
  have HC := Lib.hid (fun W t (hpW : PaAt W g s i) (hmW : TM W g) (ht : t ≠ g) hT => chain_minus g s i W hpW hmW L hL t ht hT h)
  rw [show ((Pz s.data.toList.length .minus [] L).bind fun es l1 => Pz s.data.toList.length .productL es l1) = Pz s.data.toList.length .product [] L from by rw [Pz_eq _ .product]; rfl] at HC
  have HPA := Lib.hid hp
  have HM := Lib.hid hm
  have hlt := hp.b.lt
  obtain ⟨r, hr⟩ : ∃ r, Pz s.data.toList.length .product [] L = r := ⟨_, rfl⟩
  rw [hr] at HC ⊢
  clear hp hm hr
  go_enter Tryz.func135, Tryz.ntmps135
  go_upto_region 1 with (fail)
  obtain ⟨W, hW⟩ : ∃ W, W = w.alloc (.cells #[.int .i64 0, .int .i64 0, .string ⟨#[]⟩, .int .i64 0, .int .i64 0, .string ⟨#[]⟩, .slice none 0 0, .slice none 0 0] 27 (0, 0)) := ⟨_, rfl⟩
  have hkW : Kp g w W := by rw [hW]; exact (kp_refl g w).alloc _
  have HPW := Lib.hid (show PaAt W g s i by rw [hW]; exact HPA.out.alloc _)
  have BR : Blk W w.heap.size 27 #[.int .i64 0, .int .i64 0, .string ⟨#[]⟩, .int .i64 0, .int .i64 0, .string ⟨#[]⟩, .slice none 0 0, .slice none 0 0] := by rw [hW]; exact Blk.new w _ _
  have hWs : w.heap.size < W.heap.size := BR.lt
  rw [← hW]
  clear hW
  go_wp2_with fail
  refine (prodB_any W).mono ?_
  rintro e Wt ⟨rfl, hbt, hbw⟩
  have HBT := Lib.hid hbt
  have HPT := Lib.hid (HPW.out.below hbw)
  have HKT := Lib.hid (hkW.trans (Kp.of hbw))
  have BRT := BR.below hbw BR.lt
  have hszt := hbw.size
  have hgW : g < W.heap.size := HPW.out.b.lt
  clear hbt hbw
  go_wp2_with fail
  refine (HC.out Wt W.heap.size HPT.out (HM.out.kp HKT.out) (by omega) HBT.out).mono ?_
  cases r with
  | err k =>
    rintro e w1 ⟨rfl, hk1⟩
    go_wp2_with fail
    exact ⟨rfl, rfl, HKT.out.trans hk1⟩
  | ok es l1 =>
    rintro e w1 ⟨x, i1, cs1, rfl, rfl, rfl, hx1, hp1, hk1⟩
    have HX1 := Lib.hid hx1
    obtain ⟨hn1, hs1, hl1, ha1, hxx1, hrr1, hii1⟩ := hx1
    rename_i A1 c1 A2 c2 csi1
    clear hxx1 hrr1 hii1 hn1 hs1 hl1 ha1
    have exa1 : (exCells x A1 c1 A2 c2).toArray = #[.int .i64 x.k, .int .i64 x.op, .string x.nm, .int .i64 x.v.k, .int .i64 x.v.n, .string x.v.s, .slice A1 x.v.l.length c1, .slice A2 x.ar.length c2] := rfl
    rw [exa1]
    clear exa1
    have B1 : Blk w1 w.heap.size 27 #[.int .i64 0, .int .i64 0, .string ⟨#[]⟩, .int .i64 0, .int .i64 0, .string ⟨#[]⟩, .slice none 0 0, .slice none 0 0] := BRT.kp hk1 (by omega)
    have rc0 : w1.cell? ⟨w.heap.size, 0, none⟩ = some (.int .i64 0) := B1.cell 0
    have rz0 : w1.frozen? ⟨w.heap.size, 0, none⟩ = false := B1.frozen 0
    have rc1 : w1.cell? ⟨w.heap.size, 1, none⟩ = some (.int .i64 0) := B1.cell 1
    have rz1 : w1.frozen? ⟨w.heap.size, 1, none⟩ = false := B1.frozen 1
    have rc2 : w1.cell? ⟨w.heap.size, 2, none⟩ = some (.string ⟨#[]⟩) := B1.cell 2
    have rz2 : w1.frozen? ⟨w.heap.size, 2, none⟩ = false := B1.frozen 2
    have rc3 : w1.cell? ⟨w.heap.size, 3, none⟩ = some (.int .i64 0) := B1.cell 3
    have rz3 : w1.frozen? ⟨w.heap.size, 3, none⟩ = false := B1.frozen 3
    have rc4 : w1.cell? ⟨w.heap.size, 4, none⟩ = some (.int .i64 0) := B1.cell 4
    have rz4 : w1.frozen? ⟨w.heap.size, 4, none⟩ = false := B1.frozen 4
    have rc5 : w1.cell? ⟨w.heap.size, 5, none⟩ = some (.string ⟨#[]⟩) := B1.cell 5
    have rz5 : w1.frozen? ⟨w.heap.size, 5, none⟩ = false := B1.frozen 5
    have rc6 : w1.cell? ⟨w.heap.size, 6, none⟩ = some (.slice none 0 0) := B1.cell 6
    have rz6 : w1.frozen? ⟨w.heap.size, 6, none⟩ = false := B1.frozen 6
    have rc7 : w1.cell? ⟨w.heap.size, 7, none⟩ = some (.slice none 0 0) := B1.cell 7
    have rz7 : w1.frozen? ⟨w.heap.size, 7, none⟩ = false := B1.frozen 7
    go_wp2_with fail
    refine bodyPost_ret (v := .agg #[.int .i64 x.k, .int .i64 x.op, .string x.nm, .int .i64 x.v.k, .int .i64 x.v.n, .string x.v.s, .slice A1 x.v.l.length c1, .slice A2 x.ar.length c2]) (by simp [results, Tryz.results135, go_sem, rc0, rc1, rc2, rc3, rc4, rc5, rc6, rc7]) rfl ?_
    exact ret8 (L := Wt.heap.size) HX1.out (by omega) hlt hp1 (HKT.out.trans hk1)
end Go.Proofs.YtobanldeicclmaaGreatDoor
