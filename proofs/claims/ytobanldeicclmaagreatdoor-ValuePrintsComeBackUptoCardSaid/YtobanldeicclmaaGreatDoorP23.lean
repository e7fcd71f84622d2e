/- The walk of Parse. · The walks of text, per form of expression. -/
import Derived.Test.YtobanldeicclmaaGreatDoorP22
import Derived.Test.YtobanldeicclmaaGreatDoorP3
import Derived.Test.YtobanldeicclmaaGreatDoorP13
import Derived.Deep.DrawnRows
namespace Go.Proofs.YtobanldeicclmaaGreatDoor
open Go.RowKit Vtx
attribute [local go_sem ↓] Go.wp_at_zero Go.wp_at_succ
/-- what Parse hands back -/
def PsRet (w : World) (p : Ex × Nat × Int) (e : Ending) (w' : World) : Prop :=
  ∃ A1 c1 A2 c2, e = .returned (.tuple #[.agg (exCells p.1 A1 c1 A2 c2).toArray, .int .i64 (p.2.1 : Nat), .int .i64 p.2.2]) ∧ ExIn w' (fun b => w.heap.size ≤ b) w'.heap.size p.1 (exCells p.1 A1 c1 A2 c2) ∧ Below w.heap.size w w'
theorem zero_in (w : World) (p : Nat → Prop) : ExIn w p w.heap.size (.mk 0 0 ⟨#[]⟩ zeroX []) (exCells (.mk 0 0 ⟨#[]⟩ zeroX []) none 0 none 0) :=
  ExIn.mk (e := .mk 0 0 ⟨#[]⟩ zeroX []) (cs := []) (show 0 ≤ maxLen from Nat.zero_le _) (show 0 ≤ maxLen from Nat.zero_le _) (show 0 ≤ maxLen from Nat.zero_le _) (show 0 ≤ maxLen from Nat.zero_le _) ⟨Reads.none_, fun _ ad e => by cases e⟩ ⟨Reads.none_, fun _ ad e => by cases e⟩ (fun i hi => absurd hi (by simp [Ex.ar]))
theorem psret_zero {w w' : World} {at_ : Nat} {f : Int} (hb : Below w.heap.size w w') : PsRet w (.mk 0 0 ⟨#[]⟩ zeroX [], at_, f) (.returned (.tuple #[.agg #[.int .i64 0, .int .i64 0, .string ⟨#[]⟩, .int .i64 0, .int .i64 0, .string ⟨#[]⟩, .slice none 0 0, .slice none 0 0], .int .i64 (at_ : Nat), .int .i64 f])) w' :=
  ⟨none, 0, none, 0, rfl, zero_in w' _, hb⟩
theorem below_set8 {w w' : World} (h : Below w.heap.size w w') (v0 v1 v2 v3 v4 v5 v6 v7 : Value) : Below w.heap.size w (set8 w' w.heap.size v0 v1 v2 v3 v4 v5 v6 v7) :=
  (((((((h.setCell (p := ⟨w.heap.size, 0, none⟩) (Nat.le_refl _) _).setCell (p := ⟨w.heap.size, 1, none⟩) (Nat.le_refl _) _).setCell (p := ⟨w.heap.size, 2, none⟩) (Nat.le_refl _) _).setCell (p := ⟨w.heap.size, 3, none⟩) (Nat.le_refl _) _).setCell (p := ⟨w.heap.size, 4, none⟩) (Nat.le_refl _) _).setCell (p := ⟨w.heap.size, 5, none⟩) (Nat.le_refl _) _).setCell (p := ⟨w.heap.size, 6, none⟩) (Nat.le_refl _) _).setCell (p := ⟨w.heap.size, 7, none⟩) (Nat.le_refl _) _
theorem parseF_eq (s : List UInt8) (h : s.length ≤ 4000) : parseF s = (match Pz s.length .or [] (wordsOf s 0) with
    | .err k => (.mk 0 0 ⟨#[]⟩ zeroX [], k, 10)
    | .ok _ (t :: _) => (.mk 0 0 ⟨#[]⟩ zeroX [], t.at_, 10)
    | .ok es [] => if checkE (es.getD 0 (.mk 0 0 ⟨#[]⟩ zeroX [])) ≠ 0 then (.mk 0 0 ⟨#[]⟩ zeroX [], 0, checkE (es.getD 0 (.mk 0 0 ⟨#[]⟩ zeroX []))) else (es.getD 0 (.mk 0 0 ⟨#[]⟩ zeroX []), 0, 0)) := by
  unfold parseF
  rw [if_neg (by omega), parse_top]
  obtain ⟨r, hr⟩ : ∃ r, Pz s.length .or [] (wordsOf s 0) = r := ⟨_, rfl⟩
  rw [hr]
  cases r with
  | err k => rfl
  | ok es l => cases l <;> rfl
set_option maxHeartbeats 4000000 in
set_option maxRecDepth 100000 in
theorem Parse_any (s : ByteArray) (w : World) (hsm : s.size ≤ maxLen) (htab : Tab w) (hm : Mx w) (hp : ∀ x, Pz s.data.toList.length .or [] (wordsOf s.data.toList 0) = .ok [x] [] → x.parts ≤ 100000000) :
    Calls Tryz.prog 6 #[.string s] w fun e w' => PsRet w (parseF s.data.toList) e w' := by
  have HTM := Lib.hid (And.intro htab hm)
  clear htab hm
  by_cases hs : s.size ≤ 4000
  · have HPF := Lib.hid (parseF_eq s.data.toList (by rw [data_len]; exact hs))
    have HHP := Lib.hid hp
    obtain ⟨R, hR⟩ : ∃ R, parseF s.data.toList = R := ⟨_, rfl⟩
    rw [hR] at HPF ⊢
    obtain ⟨r, hr⟩ : ∃ r, Pz s.data.toList.length .or [] (wordsOf s.data.toList 0) = r := ⟨_, rfl⟩
    have HC := Lib.hid (fun W htab hm => readW_any s W hs htab hm)
    rw [hr] at HPF HC HHP
    have hsi : ¬ (4000 : Int) < ((s.size : Nat) : Int) := by omega
    clear hR hr hp
    go_enter Tryz.func6, Tryz.ntmps6
    go_upto_region 1 with (fail)
    obtain ⟨W, hW⟩ : ∃ W, W = w.alloc (.cells #[.int .i64 0, .int .i64 0, .string ⟨#[]⟩, .int .i64 0, .int .i64 0, .string ⟨#[]⟩, .slice none 0 0, .slice none 0 0] 27 (0, 0)) := ⟨_, rfl⟩
    have hbW : Below w.heap.size w W := by rw [hW]; exact (Below.refl _ w).alloc (Nat.le_refl _) _
    have HBR := Lib.hid (show Blk W w.heap.size 27 #[.int .i64 0, .int .i64 0, .string ⟨#[]⟩, .int .i64 0, .int .i64 0, .string ⟨#[]⟩, .slice none 0 0, .slice none 0 0] by rw [hW]; exact Blk.new w _ _)
    have hszW : W.heap.size = w.heap.size + 1 := by rw [hW]; simp
    rw [← hW]
    clear hW
    go_wp2_with fail
    refine (HC.out W (HTM.out.1.below hbW) (HTM.out.2.below hbW)).mono ?_
    intro e w1 hrd
    cases r with
    | err k =>
      obtain ⟨rfl, hb1⟩ := hrd
      have hend : R = (.mk 0 0 ⟨#[]⟩ zeroX [], k, 10) := HPF.out
      have HEND := Lib.hid hend
      have hbw1 := hbW.trans (hb1.mono hbW.size)
      have BR1 := HBR.out.below hb1 HBR.out.lt
      clear hend hb1
      go_upto_region 4 with (fail)
      obtain ⟨W1, hW1⟩ : ∃ W1, W1 = w1.alloc (.cells #[.int .i64 0, .int .i64 0, .string ⟨#[]⟩, .int .i64 0, .int .i64 0, .string ⟨#[]⟩, .slice none 0 0, .slice none 0 0] 27 (0, 0)) := ⟨_, rfl⟩
      have hbw : Below w.heap.size w W1 := by rw [hW1]; exact hbw1.alloc hbw1.size _
      have BR9 : Blk W1 w.heap.size 27 #[.int .i64 0, .int .i64 0, .string ⟨#[]⟩, .int .i64 0, .int .i64 0, .string ⟨#[]⟩, .slice none 0 0, .slice none 0 0] := by rw [hW1]; exact BR1.alloc _
      rw [← hW1]
      clear hW1
      have rc0 : W1.cell? ⟨w.heap.size, 0, none⟩ = some (.int .i64 0) := BR9.cell 0
      have rz0 : W1.frozen? ⟨w.heap.size, 0, none⟩ = false := BR9.frozen 0
      have rc1 : W1.cell? ⟨w.heap.size, 1, none⟩ = some (.int .i64 0) := BR9.cell 1
      have rz1 : W1.frozen? ⟨w.heap.size, 1, none⟩ = false := BR9.frozen 1
      have rc2 : W1.cell? ⟨w.heap.size, 2, none⟩ = some (.string ⟨#[]⟩) := BR9.cell 2
      have rz2 : W1.frozen? ⟨w.heap.size, 2, none⟩ = false := BR9.frozen 2
      have rc3 : W1.cell? ⟨w.heap.size, 3, none⟩ = some (.int .i64 0) := BR9.cell 3
      have rz3 : W1.frozen? ⟨w.heap.size, 3, none⟩ = false := BR9.frozen 3
      have rc4 : W1.cell? ⟨w.heap.size, 4, none⟩ = some (.int .i64 0) := BR9.cell 4
      have rz4 : W1.frozen? ⟨w.heap.size, 4, none⟩ = false := BR9.frozen 4
      have rc5 : W1.cell? ⟨w.heap.size, 5, none⟩ = some (.string ⟨#[]⟩) := BR9.cell 5
      have rz5 : W1.frozen? ⟨w.heap.size, 5, none⟩ = false := BR9.frozen 5
      have rc6 : W1.cell? ⟨w.heap.size, 6, none⟩ = some (.slice none 0 0) := BR9.cell 6
      have rz6 : W1.frozen? ⟨w.heap.size, 6, none⟩ = false := BR9.frozen 6
      have rc7 : W1.cell? ⟨w.heap.size, 7, none⟩ = some (.slice none 0 0) := BR9.cell 7
      have rz7 : W1.frozen? ⟨w.heap.size, 7, none⟩ = false := BR9.frozen 7
      go_wp2_with fail
      refine bodyPost_ret (v := .tuple #[.agg #[.int .i64 0, .int .i64 0, .string ⟨#[]⟩, .int .i64 0, .int .i64 0, .string ⟨#[]⟩, .slice none 0 0, .slice none 0 0], .int .i64 (k : Nat), .int .i64 10]) (by simp [results, Tryz.results6, go_sem, rc0, rc1, rc2, rc3, rc4, rc5, rc6, rc7]) rfl ?_
      rw [HEND.out]
      exact psret_zero (below_set8 hbw _ _ _ _ _ _ _ _)
    | ok es l =>
      cases l with
      | cons t l =>
        obtain ⟨rfl, hb1⟩ := hrd
        have hend : R = (.mk 0 0 ⟨#[]⟩ zeroX [], t.at_, 10) := HPF.out
        have HEND := Lib.hid hend
        have hbw1 := hbW.trans (hb1.mono hbW.size)
        have BR1 := HBR.out.below hb1 HBR.out.lt
        clear hend hb1
        go_upto_region 4 with (fail)
        obtain ⟨W1, hW1⟩ : ∃ W1, W1 = w1.alloc (.cells #[.int .i64 0, .int .i64 0, .string ⟨#[]⟩, .int .i64 0, .int .i64 0, .string ⟨#[]⟩, .slice none 0 0, .slice none 0 0] 27 (0, 0)) := ⟨_, rfl⟩
        have hbw : Below w.heap.size w W1 := by rw [hW1]; exact hbw1.alloc hbw1.size _
        have BR9 : Blk W1 w.heap.size 27 #[.int .i64 0, .int .i64 0, .string ⟨#[]⟩, .int .i64 0, .int .i64 0, .string ⟨#[]⟩, .slice none 0 0, .slice none 0 0] := by rw [hW1]; exact BR1.alloc _
        rw [← hW1]
        clear hW1
        have rc0 : W1.cell? ⟨w.heap.size, 0, none⟩ = some (.int .i64 0) := BR9.cell 0
        have rz0 : W1.frozen? ⟨w.heap.size, 0, none⟩ = false := BR9.frozen 0
        have rc1 : W1.cell? ⟨w.heap.size, 1, none⟩ = some (.int .i64 0) := BR9.cell 1
        have rz1 : W1.frozen? ⟨w.heap.size, 1, none⟩ = false := BR9.frozen 1
        have rc2 : W1.cell? ⟨w.heap.size, 2, none⟩ = some (.string ⟨#[]⟩) := BR9.cell 2
        have rz2 : W1.frozen? ⟨w.heap.size, 2, none⟩ = false := BR9.frozen 2
        have rc3 : W1.cell? ⟨w.heap.size, 3, none⟩ = some (.int .i64 0) := BR9.cell 3
        have rz3 : W1.frozen? ⟨w.heap.size, 3, none⟩ = false := BR9.frozen 3
        have rc4 : W1.cell? ⟨w.heap.size, 4, none⟩ = some (.int .i64 0) := BR9.cell 4
        have rz4 : W1.frozen? ⟨w.heap.size, 4, none⟩ = false := BR9.frozen 4
        have rc5 : W1.cell? ⟨w.heap.size, 5, none⟩ = some (.string ⟨#[]⟩) := BR9.cell 5
        have rz5 : W1.frozen? ⟨w.heap.size, 5, none⟩ = false := BR9.frozen 5
        have rc6 : W1.cell? ⟨w.heap.size, 6, none⟩ = some (.slice none 0 0) := BR9.cell 6
        have rz6 : W1.frozen? ⟨w.heap.size, 6, none⟩ = false := BR9.frozen 6
        have rc7 : W1.cell? ⟨w.heap.size, 7, none⟩ = some (.slice none 0 0) := BR9.cell 7
        have rz7 : W1.frozen? ⟨w.heap.size, 7, none⟩ = false := BR9.frozen 7
        go_wp2_with fail
        refine bodyPost_ret (v := .tuple #[.agg #[.int .i64 0, .int .i64 0, .string ⟨#[]⟩, .int .i64 0, .int .i64 0, .string ⟨#[]⟩, .slice none 0 0, .slice none 0 0], .int .i64 (t.at_ : Nat), .int .i64 10]) (by simp [results, Tryz.results6, go_sem, rc0, rc1, rc2, rc3, rc4, rc5, rc6, rc7]) rfl ?_
        rw [HEND.out]
        exact psret_zero (below_set8 hbw _ _ _ _ _ _ _ _)
      | nil =>
        obtain ⟨x, cs, rfl, rfl, hx, hb1⟩ := hrd
        have hxp := HHP.out x rfl
        have HX := Lib.hid hx
        obtain ⟨hn, hs, hl, ha, hxx, hrr, hii⟩ := hx
        rename_i A1 c1 A2 c2 csi
        clear hxx hrr hii hn hs hl ha
        rw [show (exCells x A1 c1 A2 c2).toArray = #[.int .i64 x.k, .int .i64 x.op, .string x.nm, .int .i64 x.v.k, .int .i64 x.v.n, .string x.v.s, .slice A1 x.v.l.length c1, .slice A2 x.ar.length c2] from rfl]
        have hbw1 := hbW.trans (hb1.mono hbW.size)
        have HBR1 := Lib.hid (HBR.out.below hb1 HBR.out.lt)
        have hsz1 : W.heap.size ≤ w1.heap.size := hb1.size
        clear hb1
        go_upto_region 4 with (fail)
        obtain ⟨W1, hW1⟩ : ∃ W1, W1 = w1.alloc (.cells #[.int .i64 x.k, .int .i64 x.op, .string x.nm, .int .i64 x.v.k, .int .i64 x.v.n, .string x.v.s, .slice A1 x.v.l.length c1, .slice A2 x.ar.length c2] 27 (0, 0)) := ⟨_, rfl⟩
        have hbw : Below w.heap.size w W1 := by rw [hW1]; exact hbw1.alloc hbw1.size _
        have HBRW := Lib.hid (show Blk W1 w.heap.size 27 #[.int .i64 0, .int .i64 0, .string ⟨#[]⟩, .int .i64 0, .int .i64 0, .string ⟨#[]⟩, .slice none 0 0, .slice none 0 0] by rw [hW1]; exact HBR1.out.alloc _)
        have HBX := Lib.hid (show Blk W1 w1.heap.size 27 #[.int .i64 x.k, .int .i64 x.op, .string x.nm, .int .i64 x.v.k, .int .i64 x.v.n, .string x.v.s, .slice A1 x.v.l.length c1, .slice A2 x.ar.length c2] by rw [hW1]; exact Blk.new w1 _ _)
        have HXW := Lib.hid (show ExIn W1 (fun b => W.heap.size ≤ b) W1.heap.size x (exCells x A1 c1 A2 c2) by
          rw [hW1]
          exact (HX.out.keep (Stay.of ((Below.refl _ _).alloc (Nat.le_refl _) _))).up (by simp))
        rw [← hW1]
        clear hW1 hbw1
        have BX := HBX.out
        have ec0 : W1.cell? ⟨w1.heap.size, 0, none⟩ = some (.int .i64 x.k) := BX.cell 0
        have ec1 : W1.cell? ⟨w1.heap.size, 1, none⟩ = some (.int .i64 x.op) := BX.cell 1
        have ec2 : W1.cell? ⟨w1.heap.size, 2, none⟩ = some (.string x.nm) := BX.cell 2
        have ec3 : W1.cell? ⟨w1.heap.size, 3, none⟩ = some (.int .i64 x.v.k) := BX.cell 3
        have ec4 : W1.cell? ⟨w1.heap.size, 4, none⟩ = some (.int .i64 x.v.n) := BX.cell 4
        have ec5 : W1.cell? ⟨w1.heap.size, 5, none⟩ = some (.string x.v.s) := BX.cell 5
        have ec6 : W1.cell? ⟨w1.heap.size, 6, none⟩ = some (.slice A1 x.v.l.length c1) := BX.cell 6
        have ec7 : W1.cell? ⟨w1.heap.size, 7, none⟩ = some (.slice A2 x.ar.length c2) := BX.cell 7
        go_wp2_with fail
        refine (CheckExpr_any x W1.heap.size (exCells x A1 c1 A2 c2) W1 HXW.out.at_ (Nat.le_refl _) hxp).mono ?_
        rintro e w2 ⟨rfl, hb2⟩
        obtain ⟨f, hf⟩ : ∃ f, checkE x = f := ⟨_, rfl⟩
        have HPF := Lib.hid (show R = if f ≠ 0 then (.mk 0 0 ⟨#[]⟩ zeroX [], 0, f) else (x, 0, 0) from by rw [HPF.out]; show (if checkE x ≠ 0 then (((.mk 0 0 ⟨#[]⟩ zeroX [] : Ex), 0, checkE x) : Ex × Nat × Int) else (x, 0, 0)) = _; rw [hf])
        rw [hf]
        have hbw2 := hbw.trans (hb2.mono hbw.size)
        have BR9 := HBRW.out.below hb2 HBRW.out.lt
        have BX2 := HBX.out.below hb2 HBX.out.lt
        have HX2 := Lib.hid ((HXW.out.keep (Stay.of hb2)).up hb2.size)
        clear hf hb2 ec0 ec1 ec2 ec3 ec4 ec5 ec6 ec7 BX
        by_cases hf0 : f = 0
        · subst hf0
          have hend : R = (x, 0, 0) := by rw [HPF.out, if_neg (by decide)]
          have ec0 : w2.cell? ⟨w1.heap.size, 0, none⟩ = some (.int .i64 x.k) := BX2.cell 0
          have ec1 : w2.cell? ⟨w1.heap.size, 1, none⟩ = some (.int .i64 x.op) := BX2.cell 1
          have ec2 : w2.cell? ⟨w1.heap.size, 2, none⟩ = some (.string x.nm) := BX2.cell 2
          have ec3 : w2.cell? ⟨w1.heap.size, 3, none⟩ = some (.int .i64 x.v.k) := BX2.cell 3
          have ec4 : w2.cell? ⟨w1.heap.size, 4, none⟩ = some (.int .i64 x.v.n) := BX2.cell 4
          have ec5 : w2.cell? ⟨w1.heap.size, 5, none⟩ = some (.string x.v.s) := BX2.cell 5
          have ec6 : w2.cell? ⟨w1.heap.size, 6, none⟩ = some (.slice A1 x.v.l.length c1) := BX2.cell 6
          have ec7 : w2.cell? ⟨w1.heap.size, 7, none⟩ = some (.slice A2 x.ar.length c2) := BX2.cell 7
          have rc0 : w2.cell? ⟨w.heap.size, 0, none⟩ = some (.int .i64 0) := BR9.cell 0
          have rz0 : w2.frozen? ⟨w.heap.size, 0, none⟩ = false := BR9.frozen 0
          have rc1 : w2.cell? ⟨w.heap.size, 1, none⟩ = some (.int .i64 0) := BR9.cell 1
          have rz1 : w2.frozen? ⟨w.heap.size, 1, none⟩ = false := BR9.frozen 1
          have rc2 : w2.cell? ⟨w.heap.size, 2, none⟩ = some (.string ⟨#[]⟩) := BR9.cell 2
          have rz2 : w2.frozen? ⟨w.heap.size, 2, none⟩ = false := BR9.frozen 2
          have rc3 : w2.cell? ⟨w.heap.size, 3, none⟩ = some (.int .i64 0) := BR9.cell 3
          have rz3 : w2.frozen? ⟨w.heap.size, 3, none⟩ = false := BR9.frozen 3
          have rc4 : w2.cell? ⟨w.heap.size, 4, none⟩ = some (.int .i64 0) := BR9.cell 4
          have rz4 : w2.frozen? ⟨w.heap.size, 4, none⟩ = false := BR9.frozen 4
          have rc5 : w2.cell? ⟨w.heap.size, 5, none⟩ = some (.string ⟨#[]⟩) := BR9.cell 5
          have rz5 : w2.frozen? ⟨w.heap.size, 5, none⟩ = false := BR9.frozen 5
          have rc6 : w2.cell? ⟨w.heap.size, 6, none⟩ = some (.slice none 0 0) := BR9.cell 6
          have rz6 : w2.frozen? ⟨w.heap.size, 6, none⟩ = false := BR9.frozen 6
          have rc7 : w2.cell? ⟨w.heap.size, 7, none⟩ = some (.slice none 0 0) := BR9.cell 7
          have rz7 : w2.frozen? ⟨w.heap.size, 7, none⟩ = false := BR9.frozen 7
          go_wp2_with fail
          refine bodyPost_ret (v := .tuple #[.agg #[.int .i64 x.k, .int .i64 x.op, .string x.nm, .int .i64 x.v.k, .int .i64 x.v.n, .string x.v.s, .slice A1 x.v.l.length c1, .slice A2 x.ar.length c2], .int .i64 0, .int .i64 0]) (by simp [results, Tryz.results6, go_sem, rc0, rc1, rc2, rc3, rc4, rc5, rc6, rc7]) rfl ?_
          rw [hend]
          exact ⟨A1, c1, A2, c2, rfl, (set8_in (b := w.heap.size) HX2.out (fun k hk => by omega) (.int .i64 x.k) (.int .i64 x.op) (.string x.nm) (.int .i64 x.v.k) (.int .i64 x.v.n) (.string x.v.s) (.slice A1 x.v.l.length c1) (.slice A2 x.ar.length c2)).imp (fun k hk _ => by omega), below_set8 hbw2 _ _ _ _ _ _ _ _⟩
        · have bf : (f == 0) = false := by simp [hf0]
          have hend : R = (.mk 0 0 ⟨#[]⟩ zeroX [], 0, f) := by rw [HPF.out, if_pos hf0]
          have rc0 : w2.cell? ⟨w.heap.size, 0, none⟩ = some (.int .i64 0) := BR9.cell 0
          have rz0 : w2.frozen? ⟨w.heap.size, 0, none⟩ = false := BR9.frozen 0
          have rc1 : w2.cell? ⟨w.heap.size, 1, none⟩ = some (.int .i64 0) := BR9.cell 1
          have rz1 : w2.frozen? ⟨w.heap.size, 1, none⟩ = false := BR9.frozen 1
          have rc2 : w2.cell? ⟨w.heap.size, 2, none⟩ = some (.string ⟨#[]⟩) := BR9.cell 2
          have rz2 : w2.frozen? ⟨w.heap.size, 2, none⟩ = false := BR9.frozen 2
          have rc3 : w2.cell? ⟨w.heap.size, 3, none⟩ = some (.int .i64 0) := BR9.cell 3
          have rz3 : w2.frozen? ⟨w.heap.size, 3, none⟩ = false := BR9.frozen 3
          have rc4 : w2.cell? ⟨w.heap.size, 4, none⟩ = some (.int .i64 0) := BR9.cell 4
          have rz4 : w2.frozen? ⟨w.heap.size, 4, none⟩ = false := BR9.frozen 4
          have rc5 : w2.cell? ⟨w.heap.size, 5, none⟩ = some (.string ⟨#[]⟩) := BR9.cell 5
          have rz5 : w2.frozen? ⟨w.heap.size, 5, none⟩ = false := BR9.frozen 5
          have rc6 : w2.cell? ⟨w.heap.size, 6, none⟩ = some (.slice none 0 0) := BR9.cell 6
          have rz6 : w2.frozen? ⟨w.heap.size, 6, none⟩ = false := BR9.frozen 6
          have rc7 : w2.cell? ⟨w.heap.size, 7, none⟩ = some (.slice none 0 0) := BR9.cell 7
          have rz7 : w2.frozen? ⟨w.heap.size, 7, none⟩ = false := BR9.frozen 7
          go_wp2_with fail
          refine bodyPost_ret (v := .tuple #[.agg #[.int .i64 0, .int .i64 0, .string ⟨#[]⟩, .int .i64 0, .int .i64 0, .string ⟨#[]⟩, .slice none 0 0, .slice none 0 0], .int .i64 0, .int .i64 f]) (by simp [results, Tryz.results6, go_sem, rc0, rc1, rc2, rc3, rc4, rc5, rc6, rc7]) rfl ?_
          rw [hend]
          exact psret_zero (at_ := 0) (below_set8 hbw2 _ _ _ _ _ _ _ _)
  · have HPF := Lib.hid (show parseF s.data.toList = (.mk 0 0 ⟨#[]⟩ zeroX [], 0, 2) by unfold parseF; rw [if_pos (by rw [data_len]; omega)])
    have hsi : (4000 : Int) < ((s.size : Nat) : Int) := by omega
    obtain ⟨R, hR⟩ : ∃ R, parseF s.data.toList = R := ⟨_, rfl⟩
    rw [hR] at HPF ⊢
    clear hR hp
    go_enter Tryz.func6, Tryz.ntmps6
    go_upto_region 1 with (fail)
    obtain ⟨W, hW⟩ : ∃ W, W = w.alloc (.cells #[.int .i64 0, .int .i64 0, .string ⟨#[]⟩, .int .i64 0, .int .i64 0, .string ⟨#[]⟩, .slice none 0 0, .slice none 0 0] 27 (0, 0)) := ⟨_, rfl⟩
    have hbW : Below w.heap.size w W := by rw [hW]; exact (Below.refl _ w).alloc (Nat.le_refl _) _
    have BR9 : Blk W w.heap.size 27 #[.int .i64 0, .int .i64 0, .string ⟨#[]⟩, .int .i64 0, .int .i64 0, .string ⟨#[]⟩, .slice none 0 0, .slice none 0 0] := by rw [hW]; exact Blk.new w _ _
    rw [← hW]
    clear hW
    have rc0 : W.cell? ⟨w.heap.size, 0, none⟩ = some (.int .i64 0) := BR9.cell 0
    have rz0 : W.frozen? ⟨w.heap.size, 0, none⟩ = false := BR9.frozen 0
    have rc1 : W.cell? ⟨w.heap.size, 1, none⟩ = some (.int .i64 0) := BR9.cell 1
    have rz1 : W.frozen? ⟨w.heap.size, 1, none⟩ = false := BR9.frozen 1
    have rc2 : W.cell? ⟨w.heap.size, 2, none⟩ = some (.string ⟨#[]⟩) := BR9.cell 2
    have rz2 : W.frozen? ⟨w.heap.size, 2, none⟩ = false := BR9.frozen 2
    have rc3 : W.cell? ⟨w.heap.size, 3, none⟩ = some (.int .i64 0) := BR9.cell 3
    have rz3 : W.frozen? ⟨w.heap.size, 3, none⟩ = false := BR9.frozen 3
    have rc4 : W.cell? ⟨w.heap.size, 4, none⟩ = some (.int .i64 0) := BR9.cell 4
    have rz4 : W.frozen? ⟨w.heap.size, 4, none⟩ = false := BR9.frozen 4
    have rc5 : W.cell? ⟨w.heap.size, 5, none⟩ = some (.string ⟨#[]⟩) := BR9.cell 5
    have rz5 : W.frozen? ⟨w.heap.size, 5, none⟩ = false := BR9.frozen 5
    have rc6 : W.cell? ⟨w.heap.size, 6, none⟩ = some (.slice none 0 0) := BR9.cell 6
    have rz6 : W.frozen? ⟨w.heap.size, 6, none⟩ = false := BR9.frozen 6
    have rc7 : W.cell? ⟨w.heap.size, 7, none⟩ = some (.slice none 0 0) := BR9.cell 7
    have rz7 : W.frozen? ⟨w.heap.size, 7, none⟩ = false := BR9.frozen 7
    go_wp2_with fail
    refine bodyPost_ret (v := .tuple #[.agg #[.int .i64 0, .int .i64 0, .string ⟨#[]⟩, .int .i64 0, .int .i64 0, .string ⟨#[]⟩, .slice none 0 0, .slice none 0 0], .int .i64 0, .int .i64 2]) (by simp [results, Tryz.results6, go_sem, rc0, rc1, rc2, rc3, rc4, rc5, rc6, rc7]) rfl ?_
    rw [HPF.out]
    exact psret_zero (at_ := 0) (below_set8 hbW _ _ _ _ _ _ _ _)
end Go.Proofs.YtobanldeicclmaaGreatDoor
namespace Go.Proofs.YtobanldeicclmaaGreatDoor
open Go.RowKit
attribute [local go_sem ↓] Go.wp_at_zero Go.wp_at_succ
set_option maxHeartbeats 4000000 in
set_option maxRecDepth 100000 in
theorem text_1 (e : Ex) (hk : e.k = 1) (hI : ∀ a ∈ e.ar, TextSpec 10 a) (h9 : ∀ a ∈ e.ar, a.text.length ≤ 1000000000) (hj : ∀ l, ((insL l e.ar).map List.length).sum + 98 * e.ar.length ≤ 999999000) (hla : e.ar.length ≤ 999999) (hP : partF e = 0) (B : Nat) (cs : List Value) (w : World) (hx : ExAt w B e cs) (hB : B ≤ w.heap.size) (htab : Tab w) (hm : Mx w) :
    Calls Tryz.prog 10 #[.agg cs.toArray] w fun en w' => en = .returned (.string (tx (e.text))) ∧ Below w.heap.size w w' := by
  have P := partOk hP
  have HX := Lib.hid hx
  obtain ⟨R, hR⟩ : ∃ R, e.text = R := ⟨_, rfl⟩
  rw [hR]
  have hte := hR.symm.trans (text_eq e)
  have HTM := Lib.hid (fun w' (hb : Below w.heap.size w w') => And.intro (tabIs_below htab hb) (hm.below hb))
  obtain ⟨hn, hs, hl, ha, hx, hr, hi⟩ := hx
  rename_i A1 c1 A2 c2 cs
  have HXX := Lib.hid (fun w' (hb : Below w.heap.size w w') => HX.out.keep (hb.mono hB))
  have hk1 : (e.k == 1) = true := by rw [hk]; rfl
  have hk2 : (e.k == 2) = false := by rw [hk]; rfl
  have hk3 : (e.k == 3) = false := by rw [hk]; rfl
  have hk5 : (e.k == 5) = false := by rw [hk]; rfl
  have HQ := Lib.hid (snd_of (part_const' hP hk))
  have HRX := Lib.hid hx
  have hv := show_le (part_const' hP hk)
  have HR := Lib.hid (show tx R = tx (Vtx.showT e.v.k e.v.n e.v.s.data.toList e.v.l) by rw [hte, if_pos hk])
  clear hx hr hi htab hm hI h9 hj hla hR hte P hP hk hv
  show Calls Tryz.prog 10 #[.agg #[.int .i64 e.k, .int .i64 e.op, .string e.nm, .int .i64 e.v.k, .int .i64 e.v.n, .string e.v.s, .slice A1 e.v.l.length c1, .slice A2 e.ar.length c2]] w _
  go_enter Tryz.func10, Tryz.ntmps10
  go_upto_region 1 with (fail)
  obtain ⟨W, hW⟩ : ∃ W, W = (w.alloc (.cells #[.int .i64 e.k, .int .i64 e.op, .string e.nm, .int .i64 e.v.k, .int .i64 e.v.n, .string e.v.s, .slice A1 e.v.l.length c1, .slice A2 e.ar.length c2] 27 (0, 0))) := ⟨_, rfl⟩
  have hbw : Below w.heap.size w W := by rw [hW]; exact ((Below.refl _ w).alloc (Nat.le_refl _) _)
  have B0 : Blk W (w.heap.size) 27 #[.int .i64 e.k, .int .i64 e.op, .string e.nm, .int .i64 e.v.k, .int .i64 e.v.n, .string e.v.s, .slice A1 e.v.l.length c1, .slice A2 e.ar.length c2] := by
    rw [hW]
    have := Blk.new w 27 #[.int .i64 e.k, .int .i64 e.op, .string e.nm, .int .i64 e.v.k, .int .i64 e.v.n, .string e.v.s, .slice A1 e.v.l.length c1, .slice A2 e.ar.length c2]
    exact this
  have hsz : W.heap.size = w.heap.size + 1 := by rw [hW]; simp
  rw [← hW]
  have ec0 : W.cell? ⟨w.heap.size, 0, none⟩ = some (.int .i64 e.k) := B0.cell 0
  have ec1 : W.cell? ⟨w.heap.size, 1, none⟩ = some (.int .i64 e.op) := B0.cell 1
  have ec2 : W.cell? ⟨w.heap.size, 2, none⟩ = some (.string e.nm) := B0.cell 2
  have ec3 : W.cell? ⟨w.heap.size, 3, none⟩ = some (.int .i64 e.v.k) := B0.cell 3
  have ec4 : W.cell? ⟨w.heap.size, 4, none⟩ = some (.int .i64 e.v.n) := B0.cell 4
  have ec5 : W.cell? ⟨w.heap.size, 5, none⟩ = some (.string e.v.s) := B0.cell 5
  have ec6 : W.cell? ⟨w.heap.size, 6, none⟩ = some (.slice A1 e.v.l.length c1) := B0.cell 6
  have ec7 : W.cell? ⟨w.heap.size, 7, none⟩ = some (.slice A2 e.ar.length c2) := B0.cell 7
  clear hW hsz
  go_wp2_with fail
  refine (show_any e.v.k e.v.n e.v.s e.v.l _ A1 c1 B W rfl HQ.out.1 (by have := HQ.out.2; omega) (by have := HQ.out.2; omega) (HRX.out.below (hbw.mono hB)) (Nat.le_trans hB hbw.size) (HTM.out W hbw).1 (HTM.out W hbw).2).mono ?_
  rintro en W1 ⟨⟨t, rfl, ht⟩, hb1⟩
  have HT := Lib.hid (tx_of ht)
  clear ht ec0 ec1 ec2 ec3 ec4 ec5 ec6 ec7 B0
  go_wp2_with fail
  go_ret
  exact ⟨by rw [HR.out, ← HT.out]; try rfl, hbw.trans (hb1.mono hbw.size)⟩
set_option maxHeartbeats 4000000 in
set_option maxRecDepth 100000 in
theorem text_2 (e : Ex) (hk : e.k = 2) (hI : ∀ a ∈ e.ar, TextSpec 10 a) (h9 : ∀ a ∈ e.ar, a.text.length ≤ 1000000000) (hj : ∀ l, ((insL l e.ar).map List.length).sum + 98 * e.ar.length ≤ 999999000) (hla : e.ar.length ≤ 999999) (hP : partF e = 0) (B : Nat) (cs : List Value) (w : World) (hx : ExAt w B e cs) (hB : B ≤ w.heap.size) (htab : Tab w) (hm : Mx w) :
    Calls Tryz.prog 10 #[.agg cs.toArray] w fun en w' => en = .returned (.string (tx (e.text))) ∧ Below w.heap.size w w' := by
  have P := partOk hP
  have HX := Lib.hid hx
  obtain ⟨R, hR⟩ : ∃ R, e.text = R := ⟨_, rfl⟩
  rw [hR]
  have hte := hR.symm.trans (text_eq e)
  have HTM := Lib.hid (fun w' (hb : Below w.heap.size w w') => And.intro (tabIs_below htab hb) (hm.below hb))
  obtain ⟨hn, hs, hl, ha, hx, hr, hi⟩ := hx
  rename_i A1 c1 A2 c2 cs
  have HXX := Lib.hid (fun w' (hb : Below w.heap.size w w') => HX.out.keep (hb.mono hB))
  have hk1 : (e.k == 1) = false := by rw [hk]; rfl
  have hk2 : (e.k == 2) = true := by rw [hk]; rfl
  have hk3 : (e.k == 3) = false := by rw [hk]; rfl
  have hk5 : (e.k == 5) = false := by rw [hk]; rfl
  have HR := Lib.hid (show tx R = e.nm by rw [hte, if_neg (by omega), if_pos hk]; exact (tx_of rfl).symm)
  clear hx hr hi htab hm hI h9 hj hla hR hte P hP hk
  show Calls Tryz.prog 10 #[.agg #[.int .i64 e.k, .int .i64 e.op, .string e.nm, .int .i64 e.v.k, .int .i64 e.v.n, .string e.v.s, .slice A1 e.v.l.length c1, .slice A2 e.ar.length c2]] w _
  go_enter Tryz.func10, Tryz.ntmps10
  go_upto_region 1 with (fail)
  obtain ⟨W, hW⟩ : ∃ W, W = (w.alloc (.cells #[.int .i64 e.k, .int .i64 e.op, .string e.nm, .int .i64 e.v.k, .int .i64 e.v.n, .string e.v.s, .slice A1 e.v.l.length c1, .slice A2 e.ar.length c2] 27 (0, 0))) := ⟨_, rfl⟩
  have hbw : Below w.heap.size w W := by rw [hW]; exact ((Below.refl _ w).alloc (Nat.le_refl _) _)
  have B0 : Blk W (w.heap.size) 27 #[.int .i64 e.k, .int .i64 e.op, .string e.nm, .int .i64 e.v.k, .int .i64 e.v.n, .string e.v.s, .slice A1 e.v.l.length c1, .slice A2 e.ar.length c2] := by
    rw [hW]
    have := Blk.new w 27 #[.int .i64 e.k, .int .i64 e.op, .string e.nm, .int .i64 e.v.k, .int .i64 e.v.n, .string e.v.s, .slice A1 e.v.l.length c1, .slice A2 e.ar.length c2]
    exact this
  have hsz : W.heap.size = w.heap.size + 1 := by rw [hW]; simp
  rw [← hW]
  have ec0 : W.cell? ⟨w.heap.size, 0, none⟩ = some (.int .i64 e.k) := B0.cell 0
  have ec1 : W.cell? ⟨w.heap.size, 1, none⟩ = some (.int .i64 e.op) := B0.cell 1
  have ec2 : W.cell? ⟨w.heap.size, 2, none⟩ = some (.string e.nm) := B0.cell 2
  have ec3 : W.cell? ⟨w.heap.size, 3, none⟩ = some (.int .i64 e.v.k) := B0.cell 3
  have ec4 : W.cell? ⟨w.heap.size, 4, none⟩ = some (.int .i64 e.v.n) := B0.cell 4
  have ec5 : W.cell? ⟨w.heap.size, 5, none⟩ = some (.string e.v.s) := B0.cell 5
  have ec6 : W.cell? ⟨w.heap.size, 6, none⟩ = some (.slice A1 e.v.l.length c1) := B0.cell 6
  have ec7 : W.cell? ⟨w.heap.size, 7, none⟩ = some (.slice A2 e.ar.length c2) := B0.cell 7
  clear hW hsz
  clear B0
  go_wp2_with fail
  go_ret
  exact ⟨by rw [HR.out]; try rfl, hbw⟩
set_option maxHeartbeats 4000000 in
set_option maxRecDepth 100000 in
theorem text_3 (e : Ex) (hk : e.k = 3) (hI : ∀ a ∈ e.ar, TextSpec 10 a) (h9 : ∀ a ∈ e.ar, a.text.length ≤ 1000000000) (hj : ∀ l, ((insL l e.ar).map List.length).sum + 98 * e.ar.length ≤ 999999000) (hla : e.ar.length ≤ 999999) (hP : partF e = 0) (B : Nat) (cs : List Value) (w : World) (hx : ExAt w B e cs) (hB : B ≤ w.heap.size) (htab : Tab w) (hm : Mx w) :
    Calls Tryz.prog 10 #[.agg cs.toArray] w fun en w' => en = .returned (.string (tx (e.text))) ∧ Below w.heap.size w w' := by
  have P := partOk hP
  have HX := Lib.hid hx
  obtain ⟨R, hR⟩ : ∃ R, e.text = R := ⟨_, rfl⟩
  rw [hR]
  have hte := hR.symm.trans (text_eq e)
  have HTM := Lib.hid (fun w' (hb : Below w.heap.size w w') => And.intro (tabIs_below htab hb) (hm.below hb))
  obtain ⟨hn, hs, hl, ha, hx, hr, hi⟩ := hx
  rename_i A1 c1 A2 c2 cs
  have HXX := Lib.hid (fun w' (hb : Below w.heap.size w w') => HX.out.keep (hb.mono hB))
  have hk1 : (e.k == 1) = false := by rw [hk]; rfl
  have hk2 : (e.k == 2) = false := by rw [hk]; rfl
  have hk3 : (e.k == 3) = true := by rw [hk]; rfl
  have hk5 : (e.k == 5) = false := by rw [hk]; rfl
  have hnl := name_le (part_name hP (.inr (.inl hk)))
  have hns : e.nm.size ≤ 16 := by simpa using hnl
  have HR := Lib.hid (show tx R = ⟨#[114, 111, 119, 40]⟩ ++ e.nm ++ ⟨#[41]⟩ by rw [hte, if_neg (by omega), if_neg (by omega), if_pos hk, ← tx_cat, ← tx_cat, ← tx_of (t := e.nm) rfl]; rfl)
  clear hx hr hi htab hm hI h9 hj hla hR hte P hP hk hnl
  show Calls Tryz.prog 10 #[.agg #[.int .i64 e.k, .int .i64 e.op, .string e.nm, .int .i64 e.v.k, .int .i64 e.v.n, .string e.v.s, .slice A1 e.v.l.length c1, .slice A2 e.ar.length c2]] w _
  go_enter Tryz.func10, Tryz.ntmps10
  go_upto_region 1 with (fail)
  obtain ⟨W, hW⟩ : ∃ W, W = (w.alloc (.cells #[.int .i64 e.k, .int .i64 e.op, .string e.nm, .int .i64 e.v.k, .int .i64 e.v.n, .string e.v.s, .slice A1 e.v.l.length c1, .slice A2 e.ar.length c2] 27 (0, 0))) := ⟨_, rfl⟩
  have hbw : Below w.heap.size w W := by rw [hW]; exact ((Below.refl _ w).alloc (Nat.le_refl _) _)
  have B0 : Blk W (w.heap.size) 27 #[.int .i64 e.k, .int .i64 e.op, .string e.nm, .int .i64 e.v.k, .int .i64 e.v.n, .string e.v.s, .slice A1 e.v.l.length c1, .slice A2 e.ar.length c2] := by
    rw [hW]
    have := Blk.new w 27 #[.int .i64 e.k, .int .i64 e.op, .string e.nm, .int .i64 e.v.k, .int .i64 e.v.n, .string e.v.s, .slice A1 e.v.l.length c1, .slice A2 e.ar.length c2]
    exact this
  have hsz : W.heap.size = w.heap.size + 1 := by rw [hW]; simp
  rw [← hW]
  have ec0 : W.cell? ⟨w.heap.size, 0, none⟩ = some (.int .i64 e.k) := B0.cell 0
  have ec1 : W.cell? ⟨w.heap.size, 1, none⟩ = some (.int .i64 e.op) := B0.cell 1
  have ec2 : W.cell? ⟨w.heap.size, 2, none⟩ = some (.string e.nm) := B0.cell 2
  have ec3 : W.cell? ⟨w.heap.size, 3, none⟩ = some (.int .i64 e.v.k) := B0.cell 3
  have ec4 : W.cell? ⟨w.heap.size, 4, none⟩ = some (.int .i64 e.v.n) := B0.cell 4
  have ec5 : W.cell? ⟨w.heap.size, 5, none⟩ = some (.string e.v.s) := B0.cell 5
  have ec6 : W.cell? ⟨w.heap.size, 6, none⟩ = some (.slice A1 e.v.l.length c1) := B0.cell 6
  have ec7 : W.cell? ⟨w.heap.size, 7, none⟩ = some (.slice A2 e.ar.length c2) := B0.cell 7
  clear hW hsz
  clear B0
  go_wp2_with fail
  go_ret
  exact ⟨by rw [HR.out]; try rfl, hbw⟩
set_option maxHeartbeats 4000000 in
set_option maxRecDepth 100000 in
theorem text_or (e : Ex) (hk : e.k = 4) (ho : e.op = 3) (hI : ∀ a ∈ e.ar, TextSpec 10 a) (h9 : ∀ a ∈ e.ar, a.text.length ≤ 1000000000) (hj : ∀ l, ((insL l e.ar).map List.length).sum + 98 * e.ar.length ≤ 999999000) (hla : e.ar.length ≤ 999999) (hP : partF e = 0) (B : Nat) (cs : List Value) (w : World) (hx : ExAt w B e cs) (hB : B ≤ w.heap.size) (htab : Tab w) (hm : Mx w) :
    Calls Tryz.prog 10 #[.agg cs.toArray] w fun en w' => en = .returned (.string (tx (e.text))) ∧ Below w.heap.size w w' := by
  have P := partOk hP
  have HX := Lib.hid hx
  obtain ⟨R, hR⟩ : ∃ R, e.text = R := ⟨_, rfl⟩
  rw [hR]
  have hte := hR.symm.trans (text_eq e)
  have HTM := Lib.hid (fun w' (hb : Below w.heap.size w w') => And.intro (tabIs_below htab hb) (hm.below hb))
  obtain ⟨hn, hs, hl, ha, hx, hr, hi⟩ := hx
  rename_i A1 c1 A2 c2 cs
  have HXX := Lib.hid (fun w' (hb : Below w.heap.size w w') => HX.out.keep (hb.mono hB))
  have hk1 : (e.k == 1) = false := by rw [hk]; rfl
  have hk2 : (e.k == 2) = false := by rw [hk]; rfl
  have hk3 : (e.k == 3) = false := by rw [hk]; rfl
  have hk5 : (e.k == 5) = false := by rw [hk]; rfl
  rw [if_neg (by omega), if_neg (by omega), if_neg (by omega), if_neg (by omega)] at hte
  rw [if_pos ho] at hte
  have HRN := Lib.hid (show rowN e = 1 by unfold rowN; rw [if_neg (by omega), if_neg (by omega)]; simp [ho])
  have hal := P.a4 hk
  have h10 := hj 2
  have HJ := Lib.hid (fun w' (hb : Below w.heap.size w w') => joined_of e.ar [32, 111, 114, 32] 2 hI h9 (by omega) (by have := join_len (insL 2 e.ar) [32, 111, 114, 32]; rw [ins_len] at this; simp only [List.length_cons, List.length_nil] at this; omega) A2 c2 B cs w' (hr.below (hb.mono hB)) (fun i h => (hi i h).keep (hb.mono hB)) (Nat.le_trans hB hb.size) (HTM.out w' hb).1 (HTM.out w' hb).2)
  obtain ⟨t, htt⟩ : ∃ t, tx (Lib.join (insL 2 e.ar) [32, 111, 114, 32]) = t := ⟨_, rfl⟩
  simp only [htt] at HJ
  have HR := Lib.hid ((congrArg tx hte).trans htt)
  clear hx hr hi htab hm hI h9 hj hla hR hte P hP hk ho hal h10 htt
  show Calls Tryz.prog 10 #[.agg #[.int .i64 e.k, .int .i64 e.op, .string e.nm, .int .i64 e.v.k, .int .i64 e.v.n, .string e.v.s, .slice A1 e.v.l.length c1, .slice A2 e.ar.length c2]] w _
  go_enter Tryz.func10, Tryz.ntmps10
  go_upto_region 1 with (fail)
  obtain ⟨W, hW⟩ : ∃ W, W = (w.alloc (.cells #[.int .i64 e.k, .int .i64 e.op, .string e.nm, .int .i64 e.v.k, .int .i64 e.v.n, .string e.v.s, .slice A1 e.v.l.length c1, .slice A2 e.ar.length c2] 27 (0, 0))) := ⟨_, rfl⟩
  have hbw : Below w.heap.size w W := by rw [hW]; exact ((Below.refl _ w).alloc (Nat.le_refl _) _)
  have B0 : Blk W (w.heap.size) 27 #[.int .i64 e.k, .int .i64 e.op, .string e.nm, .int .i64 e.v.k, .int .i64 e.v.n, .string e.v.s, .slice A1 e.v.l.length c1, .slice A2 e.ar.length c2] := by
    rw [hW]
    have := Blk.new w 27 #[.int .i64 e.k, .int .i64 e.op, .string e.nm, .int .i64 e.v.k, .int .i64 e.v.n, .string e.v.s, .slice A1 e.v.l.length c1, .slice A2 e.ar.length c2]
    exact this
  have hsz : W.heap.size = w.heap.size + 1 := by rw [hW]; simp
  rw [← hW]
  have ec0 : W.cell? ⟨w.heap.size, 0, none⟩ = some (.int .i64 e.k) := B0.cell 0
  have ec1 : W.cell? ⟨w.heap.size, 1, none⟩ = some (.int .i64 e.op) := B0.cell 1
  have ec2 : W.cell? ⟨w.heap.size, 2, none⟩ = some (.string e.nm) := B0.cell 2
  have ec3 : W.cell? ⟨w.heap.size, 3, none⟩ = some (.int .i64 e.v.k) := B0.cell 3
  have ec4 : W.cell? ⟨w.heap.size, 4, none⟩ = some (.int .i64 e.v.n) := B0.cell 4
  have ec5 : W.cell? ⟨w.heap.size, 5, none⟩ = some (.string e.v.s) := B0.cell 5
  have ec6 : W.cell? ⟨w.heap.size, 6, none⟩ = some (.slice A1 e.v.l.length c1) := B0.cell 6
  have ec7 : W.cell? ⟨w.heap.size, 7, none⟩ = some (.slice A2 e.ar.length c2) := B0.cell 7
  clear hW hsz
  go_wp2_with fail
  refine (row_any e B _ W (HXX.out W hbw)).mono ?_
  rw [HRN.out]
  rintro en W1 ⟨rfl, hb1⟩
  have hbw1 := hbw.trans (hb1.mono hbw.size)
  have B0 := B0.below hb1 B0.lt
  clear ec0 ec1 ec2 ec3 ec4 ec5 ec6 ec7 hb1
  have ec0 : W1.cell? ⟨w.heap.size, 0, none⟩ = some (.int .i64 e.k) := B0.cell 0
  have ec1 : W1.cell? ⟨w.heap.size, 1, none⟩ = some (.int .i64 e.op) := B0.cell 1
  have ec2 : W1.cell? ⟨w.heap.size, 2, none⟩ = some (.string e.nm) := B0.cell 2
  have ec3 : W1.cell? ⟨w.heap.size, 3, none⟩ = some (.int .i64 e.v.k) := B0.cell 3
  have ec4 : W1.cell? ⟨w.heap.size, 4, none⟩ = some (.int .i64 e.v.n) := B0.cell 4
  have ec5 : W1.cell? ⟨w.heap.size, 5, none⟩ = some (.string e.v.s) := B0.cell 5
  have ec6 : W1.cell? ⟨w.heap.size, 6, none⟩ = some (.slice A1 e.v.l.length c1) := B0.cell 6
  have ec7 : W1.cell? ⟨w.heap.size, 7, none⟩ = some (.slice A2 e.ar.length c2) := B0.cell 7
  go_wp2_with fail
  refine (HJ.out W1 hbw1).mono ?_
  rintro en W2 ⟨rfl, hb2⟩
  clear ec0 ec1 ec2 ec3 ec4 ec5 ec6 ec7 B0
  go_wp2_with fail
  go_ret
  exact ⟨by rw [HR.out]; try rfl, hbw1.trans (hb2.mono hbw1.size)⟩
set_option maxHeartbeats 4000000 in
set_option maxRecDepth 100000 in
theorem text_and (e : Ex) (hk : e.k = 4) (ho : e.op = 2) (hI : ∀ a ∈ e.ar, TextSpec 10 a) (h9 : ∀ a ∈ e.ar, a.text.length ≤ 1000000000) (hj : ∀ l, ((insL l e.ar).map List.length).sum + 98 * e.ar.length ≤ 999999000) (hla : e.ar.length ≤ 999999) (hP : partF e = 0) (B : Nat) (cs : List Value) (w : World) (hx : ExAt w B e cs) (hB : B ≤ w.heap.size) (htab : Tab w) (hm : Mx w) :
    Calls Tryz.prog 10 #[.agg cs.toArray] w fun en w' => en = .returned (.string (tx (e.text))) ∧ Below w.heap.size w w' := by
  have P := partOk hP
  have HX := Lib.hid hx
  obtain ⟨R, hR⟩ : ∃ R, e.text = R := ⟨_, rfl⟩
  rw [hR]
  have hte := hR.symm.trans (text_eq e)
  have HTM := Lib.hid (fun w' (hb : Below w.heap.size w w') => And.intro (tabIs_below htab hb) (hm.below hb))
  obtain ⟨hn, hs, hl, ha, hx, hr, hi⟩ := hx
  rename_i A1 c1 A2 c2 cs
  have HXX := Lib.hid (fun w' (hb : Below w.heap.size w w') => HX.out.keep (hb.mono hB))
  have hk1 : (e.k == 1) = false := by rw [hk]; rfl
  have hk2 : (e.k == 2) = false := by rw [hk]; rfl
  have hk3 : (e.k == 3) = false := by rw [hk]; rfl
  have hk5 : (e.k == 5) = false := by rw [hk]; rfl
  rw [if_neg (by omega), if_neg (by omega), if_neg (by omega), if_neg (by omega)] at hte
  rw [if_neg (by omega), if_pos ho] at hte
  have HRN := Lib.hid (show rowN e = 2 by unfold rowN; rw [if_neg (by omega), if_neg (by omega)]; simp [ho])
  have hal := P.a4 hk
  have h10 := hj 3
  have HJ := Lib.hid (fun w' (hb : Below w.heap.size w w') => joined_of e.ar [32, 97, 110, 100, 32] 3 hI h9 (by omega) (by have := join_len (insL 3 e.ar) [32, 97, 110, 100, 32]; rw [ins_len] at this; simp only [List.length_cons, List.length_nil] at this; omega) A2 c2 B cs w' (hr.below (hb.mono hB)) (fun i h => (hi i h).keep (hb.mono hB)) (Nat.le_trans hB hb.size) (HTM.out w' hb).1 (HTM.out w' hb).2)
  obtain ⟨t, htt⟩ : ∃ t, tx (Lib.join (insL 3 e.ar) [32, 97, 110, 100, 32]) = t := ⟨_, rfl⟩
  simp only [htt] at HJ
  have HR := Lib.hid ((congrArg tx hte).trans htt)
  clear hx hr hi htab hm hI h9 hj hla hR hte P hP hk ho hal h10 htt
  show Calls Tryz.prog 10 #[.agg #[.int .i64 e.k, .int .i64 e.op, .string e.nm, .int .i64 e.v.k, .int .i64 e.v.n, .string e.v.s, .slice A1 e.v.l.length c1, .slice A2 e.ar.length c2]] w _
  go_enter Tryz.func10, Tryz.ntmps10
  go_upto_region 1 with (fail)
  obtain ⟨W, hW⟩ : ∃ W, W = (w.alloc (.cells #[.int .i64 e.k, .int .i64 e.op, .string e.nm, .int .i64 e.v.k, .int .i64 e.v.n, .string e.v.s, .slice A1 e.v.l.length c1, .slice A2 e.ar.length c2] 27 (0, 0))) := ⟨_, rfl⟩
  have hbw : Below w.heap.size w W := by rw [hW]; exact ((Below.refl _ w).alloc (Nat.le_refl _) _)
  have B0 : Blk W (w.heap.size) 27 #[.int .i64 e.k, .int .i64 e.op, .string e.nm, .int .i64 e.v.k, .int .i64 e.v.n, .string e.v.s, .slice A1 e.v.l.length c1, .slice A2 e.ar.length c2] := by
    rw [hW]
    have := Blk.new w 27 #[.int .i64 e.k, .int .i64 e.op, .string e.nm, .int .i64 e.v.k, .int .i64 e.v.n, .string e.v.s, .slice A1 e.v.l.length c1, .slice A2 e.ar.length c2]
    exact this
  have hsz : W.heap.size = w.heap.size + 1 := by rw [hW]; simp
  rw [← hW]
  have ec0 : W.cell? ⟨w.heap.size, 0, none⟩ = some (.int .i64 e.k) := B0.cell 0
  have ec1 : W.cell? ⟨w.heap.size, 1, none⟩ = some (.int .i64 e.op) := B0.cell 1
  have ec2 : W.cell? ⟨w.heap.size, 2, none⟩ = some (.string e.nm) := B0.cell 2
  have ec3 : W.cell? ⟨w.heap.size, 3, none⟩ = some (.int .i64 e.v.k) := B0.cell 3
  have ec4 : W.cell? ⟨w.heap.size, 4, none⟩ = some (.int .i64 e.v.n) := B0.cell 4
  have ec5 : W.cell? ⟨w.heap.size, 5, none⟩ = some (.string e.v.s) := B0.cell 5
  have ec6 : W.cell? ⟨w.heap.size, 6, none⟩ = some (.slice A1 e.v.l.length c1) := B0.cell 6
  have ec7 : W.cell? ⟨w.heap.size, 7, none⟩ = some (.slice A2 e.ar.length c2) := B0.cell 7
  clear hW hsz
  go_wp2_with fail
  refine (row_any e B _ W (HXX.out W hbw)).mono ?_
  rw [HRN.out]
  rintro en W1 ⟨rfl, hb1⟩
  have hbw1 := hbw.trans (hb1.mono hbw.size)
  have B0 := B0.below hb1 B0.lt
  clear ec0 ec1 ec2 ec3 ec4 ec5 ec6 ec7 hb1
  have ec0 : W1.cell? ⟨w.heap.size, 0, none⟩ = some (.int .i64 e.k) := B0.cell 0
  have ec1 : W1.cell? ⟨w.heap.size, 1, none⟩ = some (.int .i64 e.op) := B0.cell 1
  have ec2 : W1.cell? ⟨w.heap.size, 2, none⟩ = some (.string e.nm) := B0.cell 2
  have ec3 : W1.cell? ⟨w.heap.size, 3, none⟩ = some (.int .i64 e.v.k) := B0.cell 3
  have ec4 : W1.cell? ⟨w.heap.size, 4, none⟩ = some (.int .i64 e.v.n) := B0.cell 4
  have ec5 : W1.cell? ⟨w.heap.size, 5, none⟩ = some (.string e.v.s) := B0.cell 5
  have ec6 : W1.cell? ⟨w.heap.size, 6, none⟩ = some (.slice A1 e.v.l.length c1) := B0.cell 6
  have ec7 : W1.cell? ⟨w.heap.size, 7, none⟩ = some (.slice A2 e.ar.length c2) := B0.cell 7
  go_wp2_with fail
  refine (HJ.out W1 hbw1).mono ?_
  rintro en W2 ⟨rfl, hb2⟩
  clear ec0 ec1 ec2 ec3 ec4 ec5 ec6 ec7 B0
  go_wp2_with fail
  go_ret
  exact ⟨by rw [HR.out]; try rfl, hbw1.trans (hb2.mono hbw1.size)⟩
set_option maxHeartbeats 4000000 in
set_option maxRecDepth 100000 in
theorem text_cmp (e : Ex) (hk : e.k = 4) (ho : 4 ≤ e.op ∧ e.op ≤ 11) (hI : ∀ a ∈ e.ar, TextSpec 10 a) (h9 : ∀ a ∈ e.ar, a.text.length ≤ 1000000000) (hj : ∀ l, ((insL l e.ar).map List.length).sum + 98 * e.ar.length ≤ 999999000) (hla : e.ar.length ≤ 999999) (hP : partF e = 0) (B : Nat) (cs : List Value) (w : World) (hx : ExAt w B e cs) (hB : B ≤ w.heap.size) (htab : Tab w) (hm : Mx w) :
    Calls Tryz.prog 10 #[.agg cs.toArray] w fun en w' => en = .returned (.string (tx (e.text))) ∧ Below w.heap.size w w' := by
  have P := partOk hP
  have HX := Lib.hid hx
  obtain ⟨R, hR⟩ : ∃ R, e.text = R := ⟨_, rfl⟩
  rw [hR]
  have hte := hR.symm.trans (text_eq e)
  have HTM := Lib.hid (fun w' (hb : Below w.heap.size w w') => And.intro (tabIs_below htab hb) (hm.below hb))
  obtain ⟨hn, hs, hl, ha, hx, hr, hi⟩ := hx
  rename_i A1 c1 A2 c2 cs
  have HXX := Lib.hid (fun w' (hb : Below w.heap.size w w') => HX.out.keep (hb.mono hB))
  have hk1 : (e.k == 1) = false := by rw [hk]; rfl
  have hk2 : (e.k == 2) = false := by rw [hk]; rfl
  have hk3 : (e.k == 3) = false := by rw [hk]; rfl
  have hk5 : (e.k == 5) = false := by rw [hk]; rfl
  rw [if_neg (by omega), if_neg (by omega), if_neg (by omega), if_neg (by omega)] at hte
  rw [if_neg (by omega), if_neg (by omega), if_neg (by omega), if_pos ho] at hte
  have HRN := Lib.hid (show rowN e = 4 by unfold rowN; rw [if_neg (by omega), if_neg (by omega)]; rw [if_neg (by omega), if_neg (by omega), if_neg (by omega), if_pos ho])
  have hal := P.a4 hk
  have h2 : e.ar.length = 2 := by
    unfold arOf at hal
    rw [if_neg (by omega), if_neg (by omega), if_neg (by omega), if_pos (by omega)] at hal
    have h1 : (2 : Nat) ≤ e.ar.length := hal.1
    have h3 : e.ar.length ≤ (2 : Nat) := hal.2
    omega
  have HJ := Lib.hid (fun w' (hb : Below w.heap.size w w') => binary_of e 5 5 hI h9 h2 B _ w' (HXX.out w' hb) (Nat.le_trans hB hb.size) (HTM.out w' hb).1 (HTM.out w' hb).2)
  obtain ⟨t, htt⟩ : ∃ t, tx ((insL 5 e.ar).getD 0 [] ++ [32] ++ infixT e.op ++ [32] ++ (insL 5 e.ar).getD 1 []) = t := ⟨_, rfl⟩
  simp only [htt] at HJ
  have HR := Lib.hid ((congrArg tx hte).trans htt)
  clear hx hr hi htab hm hI h9 hj hla hR hte P hP hk ho hal h2 htt
  show Calls Tryz.prog 10 #[.agg #[.int .i64 e.k, .int .i64 e.op, .string e.nm, .int .i64 e.v.k, .int .i64 e.v.n, .string e.v.s, .slice A1 e.v.l.length c1, .slice A2 e.ar.length c2]] w _
  go_enter Tryz.func10, Tryz.ntmps10
  go_upto_region 1 with (fail)
  obtain ⟨W, hW⟩ : ∃ W, W = (w.alloc (.cells #[.int .i64 e.k, .int .i64 e.op, .string e.nm, .int .i64 e.v.k, .int .i64 e.v.n, .string e.v.s, .slice A1 e.v.l.length c1, .slice A2 e.ar.length c2] 27 (0, 0))) := ⟨_, rfl⟩
  have hbw : Below w.heap.size w W := by rw [hW]; exact ((Below.refl _ w).alloc (Nat.le_refl _) _)
  have B0 : Blk W (w.heap.size) 27 #[.int .i64 e.k, .int .i64 e.op, .string e.nm, .int .i64 e.v.k, .int .i64 e.v.n, .string e.v.s, .slice A1 e.v.l.length c1, .slice A2 e.ar.length c2] := by
    rw [hW]
    have := Blk.new w 27 #[.int .i64 e.k, .int .i64 e.op, .string e.nm, .int .i64 e.v.k, .int .i64 e.v.n, .string e.v.s, .slice A1 e.v.l.length c1, .slice A2 e.ar.length c2]
    exact this
  have hsz : W.heap.size = w.heap.size + 1 := by rw [hW]; simp
  rw [← hW]
  have ec0 : W.cell? ⟨w.heap.size, 0, none⟩ = some (.int .i64 e.k) := B0.cell 0
  have ec1 : W.cell? ⟨w.heap.size, 1, none⟩ = some (.int .i64 e.op) := B0.cell 1
  have ec2 : W.cell? ⟨w.heap.size, 2, none⟩ = some (.string e.nm) := B0.cell 2
  have ec3 : W.cell? ⟨w.heap.size, 3, none⟩ = some (.int .i64 e.v.k) := B0.cell 3
  have ec4 : W.cell? ⟨w.heap.size, 4, none⟩ = some (.int .i64 e.v.n) := B0.cell 4
  have ec5 : W.cell? ⟨w.heap.size, 5, none⟩ = some (.string e.v.s) := B0.cell 5
  have ec6 : W.cell? ⟨w.heap.size, 6, none⟩ = some (.slice A1 e.v.l.length c1) := B0.cell 6
  have ec7 : W.cell? ⟨w.heap.size, 7, none⟩ = some (.slice A2 e.ar.length c2) := B0.cell 7
  clear hW hsz
  go_wp2_with fail
  refine (row_any e B _ W (HXX.out W hbw)).mono ?_
  rw [HRN.out]
  rintro en W1 ⟨rfl, hb1⟩
  have hbw1 := hbw.trans (hb1.mono hbw.size)
  have B0 := B0.below hb1 B0.lt
  clear ec0 ec1 ec2 ec3 ec4 ec5 ec6 ec7 hb1
  have ec0 : W1.cell? ⟨w.heap.size, 0, none⟩ = some (.int .i64 e.k) := B0.cell 0
  have ec1 : W1.cell? ⟨w.heap.size, 1, none⟩ = some (.int .i64 e.op) := B0.cell 1
  have ec2 : W1.cell? ⟨w.heap.size, 2, none⟩ = some (.string e.nm) := B0.cell 2
  have ec3 : W1.cell? ⟨w.heap.size, 3, none⟩ = some (.int .i64 e.v.k) := B0.cell 3
  have ec4 : W1.cell? ⟨w.heap.size, 4, none⟩ = some (.int .i64 e.v.n) := B0.cell 4
  have ec5 : W1.cell? ⟨w.heap.size, 5, none⟩ = some (.string e.v.s) := B0.cell 5
  have ec6 : W1.cell? ⟨w.heap.size, 6, none⟩ = some (.slice A1 e.v.l.length c1) := B0.cell 6
  have ec7 : W1.cell? ⟨w.heap.size, 7, none⟩ = some (.slice A2 e.ar.length c2) := B0.cell 7
  go_wp2_with fail
  refine (HJ.out W1 hbw1).mono ?_
  rintro en W2 ⟨rfl, hb2⟩
  clear ec0 ec1 ec2 ec3 ec4 ec5 ec6 ec7 B0
  go_wp2_with fail
  go_ret
  exact ⟨by rw [HR.out]; try rfl, hbw1.trans (hb2.mono hbw1.size)⟩
set_option maxHeartbeats 4000000 in
set_option maxRecDepth 100000 in
theorem text_sum (e : Ex) (hk : e.k = 4) (ho : e.op = 15 ∨ e.op = 16) (hI : ∀ a ∈ e.ar, TextSpec 10 a) (h9 : ∀ a ∈ e.ar, a.text.length ≤ 1000000000) (hj : ∀ l, ((insL l e.ar).map List.length).sum + 98 * e.ar.length ≤ 999999000) (hla : e.ar.length ≤ 999999) (hP : partF e = 0) (B : Nat) (cs : List Value) (w : World) (hx : ExAt w B e cs) (hB : B ≤ w.heap.size) (htab : Tab w) (hm : Mx w) :
    Calls Tryz.prog 10 #[.agg cs.toArray] w fun en w' => en = .returned (.string (tx (e.text))) ∧ Below w.heap.size w w' := by
  have P := partOk hP
  have HX := Lib.hid hx
  obtain ⟨R, hR⟩ : ∃ R, e.text = R := ⟨_, rfl⟩
  rw [hR]
  have hte := hR.symm.trans (text_eq e)
  have HTM := Lib.hid (fun w' (hb : Below w.heap.size w w') => And.intro (tabIs_below htab hb) (hm.below hb))
  obtain ⟨hn, hs, hl, ha, hx, hr, hi⟩ := hx
  rename_i A1 c1 A2 c2 cs
  have HXX := Lib.hid (fun w' (hb : Below w.heap.size w w') => HX.out.keep (hb.mono hB))
  have hk1 : (e.k == 1) = false := by rw [hk]; rfl
  have hk2 : (e.k == 2) = false := by rw [hk]; rfl
  have hk3 : (e.k == 3) = false := by rw [hk]; rfl
  have hk5 : (e.k == 5) = false := by rw [hk]; rfl
  rw [if_neg (by omega), if_neg (by omega), if_neg (by omega), if_neg (by omega)] at hte
  rw [if_neg (by omega), if_neg (by omega), if_neg (by omega), if_neg (by omega), if_pos ho] at hte
  have HRN := Lib.hid (show rowN e = 5 by unfold rowN; rw [if_neg (by omega), if_neg (by omega)]; rw [if_neg (by omega), if_neg (by omega), if_neg (by omega), if_neg (by omega), if_pos ho])
  have hal := P.a4 hk
  have h2 : e.ar.length = 2 := by
    unfold arOf at hal
    rw [if_neg (by omega), if_neg (by omega), if_neg (by omega), if_pos (by omega)] at hal
    have h1 : (2 : Nat) ≤ e.ar.length := hal.1
    have h3 : e.ar.length ≤ (2 : Nat) := hal.2
    omega
  have HJ := Lib.hid (fun w' (hb : Below w.heap.size w w') => binary_of e 5 6 hI h9 h2 B _ w' (HXX.out w' hb) (Nat.le_trans hB hb.size) (HTM.out w' hb).1 (HTM.out w' hb).2)
  obtain ⟨t, htt⟩ : ∃ t, tx ((insL 5 e.ar).getD 0 [] ++ [32] ++ infixT e.op ++ [32] ++ (insL 6 e.ar).getD 1 []) = t := ⟨_, rfl⟩
  simp only [htt] at HJ
  have HR := Lib.hid ((congrArg tx hte).trans htt)
  clear hx hr hi htab hm hI h9 hj hla hR hte P hP hk ho hal h2 htt
  show Calls Tryz.prog 10 #[.agg #[.int .i64 e.k, .int .i64 e.op, .string e.nm, .int .i64 e.v.k, .int .i64 e.v.n, .string e.v.s, .slice A1 e.v.l.length c1, .slice A2 e.ar.length c2]] w _
  go_enter Tryz.func10, Tryz.ntmps10
  go_upto_region 1 with (fail)
  obtain ⟨W, hW⟩ : ∃ W, W = (w.alloc (.cells #[.int .i64 e.k, .int .i64 e.op, .string e.nm, .int .i64 e.v.k, .int .i64 e.v.n, .string e.v.s, .slice A1 e.v.l.length c1, .slice A2 e.ar.length c2] 27 (0, 0))) := ⟨_, rfl⟩
  have hbw : Below w.heap.size w W := by rw [hW]; exact ((Below.refl _ w).alloc (Nat.le_refl _) _)
  have B0 : Blk W (w.heap.size) 27 #[.int .i64 e.k, .int .i64 e.op, .string e.nm, .int .i64 e.v.k, .int .i64 e.v.n, .string e.v.s, .slice A1 e.v.l.length c1, .slice A2 e.ar.length c2] := by
    rw [hW]
    have := Blk.new w 27 #[.int .i64 e.k, .int .i64 e.op, .string e.nm, .int .i64 e.v.k, .int .i64 e.v.n, .string e.v.s, .slice A1 e.v.l.length c1, .slice A2 e.ar.length c2]
    exact this
  have hsz : W.heap.size = w.heap.size + 1 := by rw [hW]; simp
  rw [← hW]
  have ec0 : W.cell? ⟨w.heap.size, 0, none⟩ = some (.int .i64 e.k) := B0.cell 0
  have ec1 : W.cell? ⟨w.heap.size, 1, none⟩ = some (.int .i64 e.op) := B0.cell 1
  have ec2 : W.cell? ⟨w.heap.size, 2, none⟩ = some (.string e.nm) := B0.cell 2
  have ec3 : W.cell? ⟨w.heap.size, 3, none⟩ = some (.int .i64 e.v.k) := B0.cell 3
  have ec4 : W.cell? ⟨w.heap.size, 4, none⟩ = some (.int .i64 e.v.n) := B0.cell 4
  have ec5 : W.cell? ⟨w.heap.size, 5, none⟩ = some (.string e.v.s) := B0.cell 5
  have ec6 : W.cell? ⟨w.heap.size, 6, none⟩ = some (.slice A1 e.v.l.length c1) := B0.cell 6
  have ec7 : W.cell? ⟨w.heap.size, 7, none⟩ = some (.slice A2 e.ar.length c2) := B0.cell 7
  clear hW hsz
  go_wp2_with fail
  refine (row_any e B _ W (HXX.out W hbw)).mono ?_
  rw [HRN.out]
  rintro en W1 ⟨rfl, hb1⟩
  have hbw1 := hbw.trans (hb1.mono hbw.size)
  have B0 := B0.below hb1 B0.lt
  clear ec0 ec1 ec2 ec3 ec4 ec5 ec6 ec7 hb1
  have ec0 : W1.cell? ⟨w.heap.size, 0, none⟩ = some (.int .i64 e.k) := B0.cell 0
  have ec1 : W1.cell? ⟨w.heap.size, 1, none⟩ = some (.int .i64 e.op) := B0.cell 1
  have ec2 : W1.cell? ⟨w.heap.size, 2, none⟩ = some (.string e.nm) := B0.cell 2
  have ec3 : W1.cell? ⟨w.heap.size, 3, none⟩ = some (.int .i64 e.v.k) := B0.cell 3
  have ec4 : W1.cell? ⟨w.heap.size, 4, none⟩ = some (.int .i64 e.v.n) := B0.cell 4
  have ec5 : W1.cell? ⟨w.heap.size, 5, none⟩ = some (.string e.v.s) := B0.cell 5
  have ec6 : W1.cell? ⟨w.heap.size, 6, none⟩ = some (.slice A1 e.v.l.length c1) := B0.cell 6
  have ec7 : W1.cell? ⟨w.heap.size, 7, none⟩ = some (.slice A2 e.ar.length c2) := B0.cell 7
  go_wp2_with fail
  refine (HJ.out W1 hbw1).mono ?_
  rintro en W2 ⟨rfl, hb2⟩
  clear ec0 ec1 ec2 ec3 ec4 ec5 ec6 ec7 B0
  go_wp2_with fail
  go_ret
  exact ⟨by rw [HR.out]; try rfl, hbw1.trans (hb2.mono hbw1.size)⟩
set_option maxHeartbeats 4000000 in
set_option maxRecDepth 100000 in
theorem text_prod (e : Ex) (hk : e.k = 4) (ho : e.op = 17 ∨ e.op = 18 ∨ e.op = 19) (hI : ∀ a ∈ e.ar, TextSpec 10 a) (h9 : ∀ a ∈ e.ar, a.text.length ≤ 1000000000) (hj : ∀ l, ((insL l e.ar).map List.length).sum + 98 * e.ar.length ≤ 999999000) (hla : e.ar.length ≤ 999999) (hP : partF e = 0) (B : Nat) (cs : List Value) (w : World) (hx : ExAt w B e cs) (hB : B ≤ w.heap.size) (htab : Tab w) (hm : Mx w) :
    Calls Tryz.prog 10 #[.agg cs.toArray] w fun en w' => en = .returned (.string (tx (e.text))) ∧ Below w.heap.size w w' := by
  have P := partOk hP
  have HX := Lib.hid hx
  obtain ⟨R, hR⟩ : ∃ R, e.text = R := ⟨_, rfl⟩
  rw [hR]
  have hte := hR.symm.trans (text_eq e)
  have HTM := Lib.hid (fun w' (hb : Below w.heap.size w w') => And.intro (tabIs_below htab hb) (hm.below hb))
  obtain ⟨hn, hs, hl, ha, hx, hr, hi⟩ := hx
  rename_i A1 c1 A2 c2 cs
  have HXX := Lib.hid (fun w' (hb : Below w.heap.size w w') => HX.out.keep (hb.mono hB))
  have hk1 : (e.k == 1) = false := by rw [hk]; rfl
  have hk2 : (e.k == 2) = false := by rw [hk]; rfl
  have hk3 : (e.k == 3) = false := by rw [hk]; rfl
  have hk5 : (e.k == 5) = false := by rw [hk]; rfl
  rw [if_neg (by omega), if_neg (by omega), if_neg (by omega), if_neg (by omega)] at hte
  rw [if_neg (by omega), if_neg (by omega), if_neg (by omega), if_neg (by omega), if_neg (by omega), if_pos ho] at hte
  have HRN := Lib.hid (show rowN e = 6 by unfold rowN; rw [if_neg (by omega), if_neg (by omega)]; rw [if_neg (by omega), if_neg (by omega), if_neg (by omega), if_neg (by omega), if_neg (by omega), if_pos ho])
  have hal := P.a4 hk
  have h2 : e.ar.length = 2 := by
    unfold arOf at hal
    rw [if_neg (by omega), if_neg (by omega), if_neg (by omega), if_pos (by omega)] at hal
    have h1 : (2 : Nat) ≤ e.ar.length := hal.1
    have h3 : e.ar.length ≤ (2 : Nat) := hal.2
    omega
  have HJ := Lib.hid (fun w' (hb : Below w.heap.size w w') => binary_of e 6 7 hI h9 h2 B _ w' (HXX.out w' hb) (Nat.le_trans hB hb.size) (HTM.out w' hb).1 (HTM.out w' hb).2)
  obtain ⟨t, htt⟩ : ∃ t, tx ((insL 6 e.ar).getD 0 [] ++ [32] ++ infixT e.op ++ [32] ++ (insL 7 e.ar).getD 1 []) = t := ⟨_, rfl⟩
  simp only [htt] at HJ
  have HR := Lib.hid ((congrArg tx hte).trans htt)
  clear hx hr hi htab hm hI h9 hj hla hR hte P hP hk ho hal h2 htt
  show Calls Tryz.prog 10 #[.agg #[.int .i64 e.k, .int .i64 e.op, .string e.nm, .int .i64 e.v.k, .int .i64 e.v.n, .string e.v.s, .slice A1 e.v.l.length c1, .slice A2 e.ar.length c2]] w _
  go_enter Tryz.func10, Tryz.ntmps10
  go_upto_region 1 with (fail)
  obtain ⟨W, hW⟩ : ∃ W, W = (w.alloc (.cells #[.int .i64 e.k, .int .i64 e.op, .string e.nm, .int .i64 e.v.k, .int .i64 e.v.n, .string e.v.s, .slice A1 e.v.l.length c1, .slice A2 e.ar.length c2] 27 (0, 0))) := ⟨_, rfl⟩
  have hbw : Below w.heap.size w W := by rw [hW]; exact ((Below.refl _ w).alloc (Nat.le_refl _) _)
  have B0 : Blk W (w.heap.size) 27 #[.int .i64 e.k, .int .i64 e.op, .string e.nm, .int .i64 e.v.k, .int .i64 e.v.n, .string e.v.s, .slice A1 e.v.l.length c1, .slice A2 e.ar.length c2] := by
    rw [hW]
    have := Blk.new w 27 #[.int .i64 e.k, .int .i64 e.op, .string e.nm, .int .i64 e.v.k, .int .i64 e.v.n, .string e.v.s, .slice A1 e.v.l.length c1, .slice A2 e.ar.length c2]
    exact this
  have hsz : W.heap.size = w.heap.size + 1 := by rw [hW]; simp
  rw [← hW]
  have ec0 : W.cell? ⟨w.heap.size, 0, none⟩ = some (.int .i64 e.k) := B0.cell 0
  have ec1 : W.cell? ⟨w.heap.size, 1, none⟩ = some (.int .i64 e.op) := B0.cell 1
  have ec2 : W.cell? ⟨w.heap.size, 2, none⟩ = some (.string e.nm) := B0.cell 2
  have ec3 : W.cell? ⟨w.heap.size, 3, none⟩ = some (.int .i64 e.v.k) := B0.cell 3
  have ec4 : W.cell? ⟨w.heap.size, 4, none⟩ = some (.int .i64 e.v.n) := B0.cell 4
  have ec5 : W.cell? ⟨w.heap.size, 5, none⟩ = some (.string e.v.s) := B0.cell 5
  have ec6 : W.cell? ⟨w.heap.size, 6, none⟩ = some (.slice A1 e.v.l.length c1) := B0.cell 6
  have ec7 : W.cell? ⟨w.heap.size, 7, none⟩ = some (.slice A2 e.ar.length c2) := B0.cell 7
  clear hW hsz
  go_wp2_with fail
  refine (row_any e B _ W (HXX.out W hbw)).mono ?_
  rw [HRN.out]
  rintro en W1 ⟨rfl, hb1⟩
  have hbw1 := hbw.trans (hb1.mono hbw.size)
  have B0 := B0.below hb1 B0.lt
  clear ec0 ec1 ec2 ec3 ec4 ec5 ec6 ec7 hb1
  have ec0 : W1.cell? ⟨w.heap.size, 0, none⟩ = some (.int .i64 e.k) := B0.cell 0
  have ec1 : W1.cell? ⟨w.heap.size, 1, none⟩ = some (.int .i64 e.op) := B0.cell 1
  have ec2 : W1.cell? ⟨w.heap.size, 2, none⟩ = some (.string e.nm) := B0.cell 2
  have ec3 : W1.cell? ⟨w.heap.size, 3, none⟩ = some (.int .i64 e.v.k) := B0.cell 3
  have ec4 : W1.cell? ⟨w.heap.size, 4, none⟩ = some (.int .i64 e.v.n) := B0.cell 4
  have ec5 : W1.cell? ⟨w.heap.size, 5, none⟩ = some (.string e.v.s) := B0.cell 5
  have ec6 : W1.cell? ⟨w.heap.size, 6, none⟩ = some (.slice A1 e.v.l.length c1) := B0.cell 6
  have ec7 : W1.cell? ⟨w.heap.size, 7, none⟩ = some (.slice A2 e.ar.length c2) := B0.cell 7
  go_wp2_with fail
  refine (HJ.out W1 hbw1).mono ?_
  rintro en W2 ⟨rfl, hb2⟩
  clear ec0 ec1 ec2 ec3 ec4 ec5 ec6 ec7 B0
  go_wp2_with fail
  go_ret
  exact ⟨by rw [HR.out]; try rfl, hbw1.trans (hb2.mono hbw1.size)⟩
end Go.Proofs.YtobanldeicclmaaGreatDoor
