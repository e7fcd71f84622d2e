/- The walk of several. -/
import Derived.Test.YtobanldeicclmaaGreatDoorP10
namespace Go.Proofs.YtobanldeicclmaaGreatDoor
open Go.RowKit Vtx
/-- the eight cells of an expression stored -/
abbrev set8 (w : World) (b : Nat) (v0 v1 v2 v3 v4 v5 v6 v7 : Value) : World := ((((((((w.setCell ⟨b, 0, none⟩ v0).setCell ⟨b, 1, none⟩ v1).setCell ⟨b, 2, none⟩ v2).setCell ⟨b, 3, none⟩ v3).setCell ⟨b, 4, none⟩ v4).setCell ⟨b, 5, none⟩ v5).setCell ⟨b, 6, none⟩ v6).setCell ⟨b, 7, none⟩ v7)
theorem set8_blk {w : World} {b : Nat} {T : TypeId} {u0 u1 u2 u3 u4 u5 u6 u7 : Value} (h : Blk w b T #[u0, u1, u2, u3, u4, u5, u6, u7]) (v0 v1 v2 v3 v4 v5 v6 v7 : Value) : Blk (set8 w b v0 v1 v2 v3 v4 v5 v6 v7) b T #[v0, v1, v2, v3, v4, v5, v6, v7] := by
  have h8 := (((((((h.set_ 0 v0).set_ 1 v1).set_ 2 v2).set_ 3 v3).set_ 4 v4).set_ 5 v5).set_ 6 v6).set_ 7 v7
  simpa using h8
theorem set8_size (w : World) (b : Nat) (v0 v1 v2 v3 v4 v5 v6 v7 : Value) : (set8 w b v0 v1 v2 v3 v4 v5 v6 v7).heap.size = w.heap.size := by simp [World.setCell]
theorem set8_far (w : World) (b : Nat) (v0 v1 v2 v3 v4 v5 v6 v7 : Value) (k : Nat) (hk : k ≠ b) : (set8 w b v0 v1 v2 v3 v4 v5 v6 v7).heap[k]? = w.heap[k]? := by
  have f : ∀ (w' : World) (i : Nat) (v : Value), (w'.setCell ⟨b, i, none⟩ v).heap[k]? = w'.heap[k]? := fun w' i v => Below.heap_setCell w' ⟨b, i, none⟩ v k hk
  simp only [set8, f]
theorem set8_kp {g : Nat} {w0 w : World} (h : Kp g w0 w) {b : Nat} (hb : w0.heap.size ≤ b) (v0 v1 v2 v3 v4 v5 v6 v7 : Value) : Kp g w0 (set8 w b v0 v1 v2 v3 v4 v5 v6 v7) :=
  ⟨by
    have f : ∀ (w' : World) (i : Nat) (v : Value), (w'.setCell ⟨b, i, none⟩ v).os = w'.os := fun _ _ _ => rfl
    simp only [set8, f]; exact h.os, by
    have f : ∀ (w' : World) (i : Nat) (v : Value), (w'.setCell ⟨b, i, none⟩ v).tape = w'.tape := fun _ _ _ => rfl
    simp only [set8, f]; exact h.tape, by
    have f : ∀ (w' : World) (i : Nat) (v : Value), (w'.setCell ⟨b, i, none⟩ v).output = w'.output := fun _ _ _ => rfl
    simp only [set8, f]; exact h.output, by rw [set8_size]; exact h.size, fun k hk hg => by rw [set8_far _ _ _ _ _ _ _ _ _ _ k (by omega)]; exact h.block k hk hg⟩
theorem words_tail {s : ByteArray} {i : Nat} {word : List UInt8} (h : isW (wordsOf s.data.toList i) word = true) : wordsOf s.data.toList (curAt s i + (curTx s i).length) = (wordsOf s.data.toList i).tail ∧ (wordsOf s.data.toList (curAt s i + (curTx s i).length)).length + 1 = (wordsOf s.data.toList i).length := by
  unfold curAt curTx
  rw [words_eq s.data.toList i] at h ⊢
  cases ht : tokAt s.data.toList i with
  | none => rw [ht] at h; cases h
  | some t => exact ⟨rfl, rfl⟩
theorem joinE_many (o : Int) {l : List Ex} (h : 2 ≤ l.length) : joinE o l = [mkOp o l] := by
  match l, h with
  | a :: b :: r, _ => rfl
theorem Kp.grown {g : Nat} {w w' w'' : World} {row : Option Nat} (h : Kp g w w') (h' : w'.grownBy w'' row) (hr : ∀ k, row = some k → w.heap.size ≤ k) : Kp g w w'' :=
  ⟨h'.os.trans h.os, h'.tape.trans h.tape, h'.output.trans h.output, Nat.le_trans h.size h'.size, fun k hk hg => (h'.block k (Nat.lt_of_lt_of_le hk h.size) (fun e => by have := hr k e.symm; omega)).trans (h.block k hk hg)⟩
set_option maxHeartbeats 4000000 in
set_option maxRecDepth 100000 in
theorem several_and (g : Nat) (s : ByteArray) (i : Nat) (w : World) (h : PaAt w g s i) (hm : TM w g) (L : List Tok) (hL : wordsOf s.data.toList i = L) (hP : ∀ L', L'.length ≤ L.length → PSpec 55 .and s L') :
    Calls Tryz.prog 54 #[.pointer (some ⟨g, 0, none⟩), .string (tb orW), .int .i64 3, .func (.func 55) #[.pointer (some ⟨g, 0, none⟩)] #[]] w fun e w' => PRet w g s ((Pz s.data.toList.length .and [] L).bind fun es l1 => Pz s.data.toList.length .orL es l1) e w' := by
  have HPP := Lib.hid hP
  have hlt := h.b.lt
  have H1 := Lib.hid (fun W hp hm => hP L (Nat.le_refl _) g i W hp hm hL)
  have HM := Lib.hid hm
  obtain ⟨t, ht⟩ : ∃ t, tb orW = t := ⟨_, rfl⟩
  rw [ht]
  obtain ⟨r, hr⟩ : ∃ r, Pz s.data.toList.length .and [] L = r := ⟨_, rfl⟩
  rw [hr] at H1 ⊢
  have HR := Lib.hid hr
  have HPA := Lib.hid h
  have HT := Lib.hid ht
  clear hr hP h ht hm
  go_enter Tryz.func54, Tryz.ntmps54
  go_wp2_with fail
  obtain ⟨W, hW⟩ : ∃ W, W = w.alloc (.cells #[.int .i64 0, .int .i64 0, .string ⟨#[]⟩, .int .i64 0, .int .i64 0, .string ⟨#[]⟩, .slice none 0 0, .slice none 0 0] 27 (0, 0)) := ⟨_, rfl⟩
  have hkW : Kp g w W := by rw [hW]; exact (kp_refl g w).alloc _
  have HPW := Lib.hid (show PaAt W g s i by rw [hW]; exact HPA.out.alloc _)
  have BR : Blk W w.heap.size 27 #[.int .i64 0, .int .i64 0, .string ⟨#[]⟩, .int .i64 0, .int .i64 0, .string ⟨#[]⟩, .slice none 0 0, .slice none 0 0] := by rw [hW]; exact Blk.new w _ _
  have hWs : w.heap.size < W.heap.size := BR.lt
  rw [← hW]
  clear hW
  refine (H1.out W HPW.out (HM.out.kp hkW)).mono ?_
  cases r with
  | err k =>
    rintro e w1 ⟨rfl, hk1⟩
    go_wp2_with fail
    exact ⟨rfl, rfl, hkW.trans hk1⟩
  | ok es l1 =>
    rintro e w1 ⟨x, i1, cs, rfl, rfl, rfl, hx, hp1, hk1⟩
    have HX := Lib.hid hx
    obtain ⟨hn1, hs1, hl1, ha1, hx1, hr1, hi1⟩ := hx
    rename_i A1 c1 A2 c2 cs1
    clear hx1 hr1 hi1
    have HP := Lib.hid hp1
    have B1 : Blk w1 w.heap.size 27 #[.int .i64 0, .int .i64 0, .string ⟨#[]⟩, .int .i64 0, .int .i64 0, .string ⟨#[]⟩, .slice none 0 0, .slice none 0 0] := by unfold Blk; rw [hk1.block _ BR.lt (fun e => by injection e with e; omega)]; exact BR
    clear BR
    obtain ⟨b, hb⟩ : ∃ b, isW (wordsOf s.data.toList i1) orW = b := ⟨_, rfl⟩
    have HI := Lib.hid (fun (W' : World) (hp : PaAt W' g s i1) => is_any g s i1 W' hp orW (by decide))
    rw [hb, HT.out] at HI
    have HBW := Lib.hid hb
    have exa : (exCells x A1 c1 A2 c2).toArray = #[.int .i64 x.k, .int .i64 x.op, .string x.nm, .int .i64 x.v.k, .int .i64 x.v.n, .string x.v.s, .slice A1 x.v.l.length c1, .slice A2 x.ar.length c2] := rfl
    rw [exa]
    cases b
    · go_wp2_with fail
      obtain ⟨W1, hW1⟩ : ∃ W1, W1 = w1.alloc (.cells #[.int .i64 x.k, .int .i64 x.op, .string x.nm, .int .i64 x.v.k, .int .i64 x.v.n, .string x.v.s, .slice A1 x.v.l.length c1, .slice A2 x.ar.length c2] 27 (0, 0)) := ⟨_, rfl⟩
      have HK1 := Lib.hid (show Kp g w W1 by rw [hW1]; exact (hkW.trans hk1).alloc _)
      have HST := Lib.hid (show Stay (fun b => W.heap.size ≤ b) w1 W1 by rw [hW1]; exact Stay.of ((Below.refl _ _).alloc (Nat.le_refl _) _))
      have HP1 := Lib.hid (show PaAt W1 g s i1 by rw [hW1]; exact HP.out.alloc _)
      have BR : Blk W1 w.heap.size 27 #[.int .i64 0, .int .i64 0, .string ⟨#[]⟩, .int .i64 0, .int .i64 0, .string ⟨#[]⟩, .slice none 0 0, .slice none 0 0] := by rw [hW1]; exact B1.alloc _
      have BX : Blk W1 w1.heap.size 27 #[.int .i64 x.k, .int .i64 x.op, .string x.nm, .int .i64 x.v.k, .int .i64 x.v.n, .string x.v.s, .slice A1 x.v.l.length c1, .slice A2 x.ar.length c2] := by rw [hW1]; exact Blk.new w1 _ _
      rw [← hW1]
      clear hW1 B1
      have rc0 : W1.cell? ⟨w.heap.size, 0, none⟩ = some (.int .i64 0) := BR.cell 0
      have rz0 : W1.frozen? ⟨w.heap.size, 0, none⟩ = false := BR.frozen 0
      have rc1 : W1.cell? ⟨w.heap.size, 1, none⟩ = some (.int .i64 0) := BR.cell 1
      have rz1 : W1.frozen? ⟨w.heap.size, 1, none⟩ = false := BR.frozen 1
      have rc2 : W1.cell? ⟨w.heap.size, 2, none⟩ = some (.string ⟨#[]⟩) := BR.cell 2
      have rz2 : W1.frozen? ⟨w.heap.size, 2, none⟩ = false := BR.frozen 2
      have rc3 : W1.cell? ⟨w.heap.size, 3, none⟩ = some (.int .i64 0) := BR.cell 3
      have rz3 : W1.frozen? ⟨w.heap.size, 3, none⟩ = false := BR.frozen 3
      have rc4 : W1.cell? ⟨w.heap.size, 4, none⟩ = some (.int .i64 0) := BR.cell 4
      have rz4 : W1.frozen? ⟨w.heap.size, 4, none⟩ = false := BR.frozen 4
      have rc5 : W1.cell? ⟨w.heap.size, 5, none⟩ = some (.string ⟨#[]⟩) := BR.cell 5
      have rz5 : W1.frozen? ⟨w.heap.size, 5, none⟩ = false := BR.frozen 5
      have rc6 : W1.cell? ⟨w.heap.size, 6, none⟩ = some (.slice none 0 0) := BR.cell 6
      have rz6 : W1.frozen? ⟨w.heap.size, 6, none⟩ = false := BR.frozen 6
      have rc7 : W1.cell? ⟨w.heap.size, 7, none⟩ = some (.slice none 0 0) := BR.cell 7
      have rz7 : W1.frozen? ⟨w.heap.size, 7, none⟩ = false := BR.frozen 7
      have xc0 : W1.cell? ⟨w1.heap.size, 0, none⟩ = some (.int .i64 x.k) := BX.cell 0
      have xc1 : W1.cell? ⟨w1.heap.size, 1, none⟩ = some (.int .i64 x.op) := BX.cell 1
      have xc2 : W1.cell? ⟨w1.heap.size, 2, none⟩ = some (.string x.nm) := BX.cell 2
      have xc3 : W1.cell? ⟨w1.heap.size, 3, none⟩ = some (.int .i64 x.v.k) := BX.cell 3
      have xc4 : W1.cell? ⟨w1.heap.size, 4, none⟩ = some (.int .i64 x.v.n) := BX.cell 4
      have xc5 : W1.cell? ⟨w1.heap.size, 5, none⟩ = some (.string x.v.s) := BX.cell 5
      have xc6 : W1.cell? ⟨w1.heap.size, 6, none⟩ = some (.slice A1 x.v.l.length c1) := BX.cell 6
      have xc7 : W1.cell? ⟨w1.heap.size, 7, none⟩ = some (.slice A2 x.ar.length c2) := BX.cell 7
      go_wp2_with (go_at_call 84; (with_reducible refine (HI.out _ HP1.out).mono ?_); rintro e w2 ⟨rfl, rfl⟩)
      refine bodyPost_ret (v := .agg #[.int .i64 x.k, .int .i64 x.op, .string x.nm, .int .i64 x.v.k, .int .i64 x.v.n, .string x.v.s, .slice A1 x.v.l.length c1, .slice A2 x.ar.length c2]) (by simp [results, Tryz.results54, go_sem, rc0, rc1, rc2, rc3, rc4, rc5, rc6, rc7]) rfl ?_
      have hend : (Res.ok [x] (wordsOf s.data.toList i1)).bind (fun es l1 => Pz s.data.toList.length .orL es l1) = .ok [x] (wordsOf s.data.toList i1) := orL_end hb
      rw [hend]
      refine ⟨x, i1, exCells x A1 c1 A2 c2, rfl, rfl, rfl, ?_, ?_, set8_kp HK1.out (Nat.le_refl _) _ _ _ _ _ _ _ _⟩
      · have hst : Stay (fun b => W.heap.size ≤ b) w1 (set8 W1 w.heap.size (.int .i64 x.k) (.int .i64 x.op) (.string x.nm) (.int .i64 x.v.k) (.int .i64 x.v.n) (.string x.v.s) (.slice A1 x.v.l.length c1) (.slice A2 x.ar.length c2)) :=
          ⟨by rw [set8_size]; exact HST.out.1, fun k hk hl => by rw [set8_far _ _ _ _ _ _ _ _ _ _ k (by omega)]; exact HST.out.2 k hk hl⟩
        exact ((HX.out.keep hst).up hst.1).imp (fun k hk _ => by omega)
      · exact HP1.out.kp (set8_far _ _ _ _ _ _ _ _ _ _ g (by omega))
    · go_wp2_with fail
      obtain ⟨W1, hW1⟩ : ∃ W1, W1 = w1.alloc (.cells #[.int .i64 x.k, .int .i64 x.op, .string x.nm, .int .i64 x.v.k, .int .i64 x.v.n, .string x.v.s, .slice A1 x.v.l.length c1, .slice A2 x.ar.length c2] 27 (0, 0)) := ⟨_, rfl⟩
      have HK1 := Lib.hid (show Kp g w W1 by rw [hW1]; exact (hkW.trans hk1).alloc _)
      have HST := Lib.hid (show Stay (fun b => W.heap.size ≤ b) w1 W1 by rw [hW1]; exact Stay.of ((Below.refl _ _).alloc (Nat.le_refl _) _))
      have HP1 := Lib.hid (show PaAt W1 g s i1 by rw [hW1]; exact HP.out.alloc _)
      have BR : Blk W1 w.heap.size 27 #[.int .i64 0, .int .i64 0, .string ⟨#[]⟩, .int .i64 0, .int .i64 0, .string ⟨#[]⟩, .slice none 0 0, .slice none 0 0] := by rw [hW1]; exact B1.alloc _
      have BX : Blk W1 w1.heap.size 27 #[.int .i64 x.k, .int .i64 x.op, .string x.nm, .int .i64 x.v.k, .int .i64 x.v.n, .string x.v.s, .slice A1 x.v.l.length c1, .slice A2 x.ar.length c2] := by rw [hW1]; exact Blk.new w1 _ _
      rw [← hW1]
      clear hW1 B1
      have xc0 : W1.cell? ⟨w1.heap.size, 0, none⟩ = some (.int .i64 x.k) := BX.cell 0
      have xc1 : W1.cell? ⟨w1.heap.size, 1, none⟩ = some (.int .i64 x.op) := BX.cell 1
      have xc2 : W1.cell? ⟨w1.heap.size, 2, none⟩ = some (.string x.nm) := BX.cell 2
      have xc3 : W1.cell? ⟨w1.heap.size, 3, none⟩ = some (.int .i64 x.v.k) := BX.cell 3
      have xc4 : W1.cell? ⟨w1.heap.size, 4, none⟩ = some (.int .i64 x.v.n) := BX.cell 4
      have xc5 : W1.cell? ⟨w1.heap.size, 5, none⟩ = some (.string x.v.s) := BX.cell 5
      have xc6 : W1.cell? ⟨w1.heap.size, 6, none⟩ = some (.slice A1 x.v.l.length c1) := BX.cell 6
      have xc7 : W1.cell? ⟨w1.heap.size, 7, none⟩ = some (.slice A2 x.ar.length c2) := BX.cell 7
      go_wp2_with (go_at_call 84; (with_reducible refine (HI.out _ HP1.out).mono ?_); rintro e w2 ⟨rfl, rfl⟩)
      obtain ⟨W2, hW2⟩ : ∃ W2, W2 = W1.alloc (.cells #[.int .i64 x.k, .int .i64 x.op, .string x.nm, .int .i64 x.v.k, .int .i64 x.v.n, .string x.v.s, .slice A1 x.v.l.length c1, .slice A2 x.ar.length c2] 27 (0, 0)) := ⟨_, rfl⟩
      have HK2 := Lib.hid (show Kp g w W2 by rw [hW2]; exact HK1.out.alloc _)
      have HP2 := Lib.hid (show PaAt W2 g s i1 by rw [hW2]; exact HP1.out.alloc _)
      have HB2 := Lib.hid (show Blk W2 w.heap.size 27 #[.int .i64 0, .int .i64 0, .string ⟨#[]⟩, .int .i64 0, .int .i64 0, .string ⟨#[]⟩, .slice none 0 0, .slice none 0 0] by rw [hW2]; exact BR.alloc _)
      have HO2 := Lib.hid (show W2.ownsRow W1.heap.size 27 8 (.slice (some ⟨W1.heap.size, 0, none⟩) 1 1) 1 (exCells x A1 c1 A2 c2) by rw [hW2]; exact own_new (Blk.new W1 _ _) (Nat.le_refl _) rfl)
      have HX2 := Lib.hid (show ExIn W2 (fun b => W.heap.size ≤ b ∧ b ≠ W1.heap.size) W2.heap.size x (exCells x A1 c1 A2 c2) by
        have h1 := (HX.out.keep HST.out).imp (q := fun b => W.heap.size ≤ b ∧ b ≠ W1.heap.size) (fun k hk hl => ⟨hk, by have := HST.out.1; omega⟩)
        rw [hW2]
        exact (h1.keep (Stay.of ((Below.refl _ _).alloc (Nat.le_refl _) _))).up (by have := HST.out.1; simp; omega))
      have hsz2 : W2.heap.size = W1.heap.size + 1 := by rw [hW2]; simp
      rw [← hW2]
      clear hW2 BR BX xc0 xc1 xc2 xc3 xc4 xc5 xc6 xc7
      obtain ⟨R, hR⟩ : ∃ R, Pz s.data.toList.length .orL [x] (wordsOf s.data.toList i1) = R := ⟨_, rfl⟩
      have HRR := Lib.hid hR.symm
      have hgoal : ((Res.ok [x] (wordsOf s.data.toList i1)).bind fun es l1 => Pz s.data.toList.length .orL es l1) = R := hR
      have HG := Lib.hid hgoal
      clear hgoal hR
      go_loopw [10] (fun v wr => ∃ (acc : List Ex) (css : List (List Value)) (A : Option Addr) (c i2 : Nat), v = .slice A acc.length c ∧ Hid (ExsIn wr (fun b => W.heap.size ≤ b ∧ some b ≠ (Value.slice A acc.length c).ownBlock) acc css) ∧ Hid (wr.ownsRow W1.heap.size 27 8 (.slice A acc.length c) acc.length css.flatten) ∧ Hid (W1.heap.size ≤ wr.heap.size) ∧ Hid (PaAt wr g s i2) ∧ Hid (Kp g w wr) ∧ Hid (Blk wr w.heap.size 27 #[.int .i64 0, .int .i64 0, .string ⟨#[]⟩, .int .i64 0, .int .i64 0, .string ⟨#[]⟩, .slice none 0 0, .slice none 0 0]) ∧ Hid (R = Pz s.data.toList.length .orL acc (wordsOf s.data.toList i2)) ∧ Hid (acc.length + (wordsOf s.data.toList i2).length ≤ 4001 ∧ (wordsOf s.data.toList i2).length ≤ L.length) ∧ Hid (1 ≤ acc.length ∧ (acc.length = 1 → isW (wordsOf s.data.toList i2) orW = true))) (fun v _ => 4001 - (match v with
        | .slice _ n _ => n
        | _ => 0))
      case atStart =>
        refine ⟨[x], [exCells x A1 c1 A2 c2], some ⟨W1.heap.size, 0, none⟩, 1, i1, rfl, ?_, ?_, ?_, HP2, HK2, HB2, HRR, ?_, Lib.hid ⟨Nat.le_refl _, fun _ => HBW.out⟩⟩
        · exact Lib.hid (ExsIn.one (HX2.out.imp (fun k hk _ => ⟨hk.1, fun e => hk.2 (by injection e)⟩)))
        · exact Lib.hid (by simpa using HO2.out)
        · exact Lib.hid (by omega)
        · have h1 := Pz_len HR.out
          have h2 := words_len s.data.toList (s.data.toList.length + 1) i1
          rw [data_len] at h2
          have h3 : (wordsOf s.data.toList i1).length ≤ 4000 := by have := HP.out.s; unfold wordsOf; rw [data_len]; omega
          exact Lib.hid ⟨by simp; omega, h1⟩
      case round =>
        obtain ⟨acc, css, A, c, i2, rfl, HE, HO, HSZ, HPr, HKr, HBr, HRr, HLr, HMr⟩ := hrel
        obtain ⟨b2, hb2⟩ : ∃ b, isW (wordsOf s.data.toList i2) orW = b := ⟨_, rfl⟩
        have HI2 := Lib.hid (is_any g s i2 wr HPr.out orW (by decide))
        rw [hb2, HT.out] at HI2
        have HB2' := Lib.hid hb2
        clear hb2
        cases b2
        · go_wp2_with (go_at_call 84; (with_reducible refine HI2.out.mono ?_); rintro e w3 ⟨rfl, rfl⟩)
          refine (operation_any 3 A acc.length c wr).mono ?_
          rintro e w3 ⟨rfl, hb3⟩
          have B3 := HBr.out.below hb3 HBr.out.lt
          have rc0 : w3.cell? ⟨w.heap.size, 0, none⟩ = some (.int .i64 0) := B3.cell 0
          have rz0 : w3.frozen? ⟨w.heap.size, 0, none⟩ = false := B3.frozen 0
          have rc1 : w3.cell? ⟨w.heap.size, 1, none⟩ = some (.int .i64 0) := B3.cell 1
          have rz1 : w3.frozen? ⟨w.heap.size, 1, none⟩ = false := B3.frozen 1
          have rc2 : w3.cell? ⟨w.heap.size, 2, none⟩ = some (.string ⟨#[]⟩) := B3.cell 2
          have rz2 : w3.frozen? ⟨w.heap.size, 2, none⟩ = false := B3.frozen 2
          have rc3 : w3.cell? ⟨w.heap.size, 3, none⟩ = some (.int .i64 0) := B3.cell 3
          have rz3 : w3.frozen? ⟨w.heap.size, 3, none⟩ = false := B3.frozen 3
          have rc4 : w3.cell? ⟨w.heap.size, 4, none⟩ = some (.int .i64 0) := B3.cell 4
          have rz4 : w3.frozen? ⟨w.heap.size, 4, none⟩ = false := B3.frozen 4
          have rc5 : w3.cell? ⟨w.heap.size, 5, none⟩ = some (.string ⟨#[]⟩) := B3.cell 5
          have rz5 : w3.frozen? ⟨w.heap.size, 5, none⟩ = false := B3.frozen 5
          have rc6 : w3.cell? ⟨w.heap.size, 6, none⟩ = some (.slice none 0 0) := B3.cell 6
          have rz6 : w3.frozen? ⟨w.heap.size, 6, none⟩ = false := B3.frozen 6
          have rc7 : w3.cell? ⟨w.heap.size, 7, none⟩ = some (.slice none 0 0) := B3.cell 7
          have rz7 : w3.frozen? ⟨w.heap.size, 7, none⟩ = false := B3.frozen 7
          go_wp2_with fail
          refine bodyPost_ret (v := .agg #[.int .i64 4, .int .i64 3, .string ⟨#[]⟩, .int .i64 0, .int .i64 0, .string ⟨#[]⟩, .slice none 0 0, .slice A acc.length c]) (by simp [results, Tryz.results54, go_sem, rc0, rc1, rc2, rc3, rc4, rc5, rc6, rc7]) rfl ?_
          have hne : acc.length ≠ 1 := fun e => by have := HMr.out.2 e; rw [HB2'.out] at this; cases this
          have hend : R = .ok [mkOp 3 acc] (wordsOf s.data.toList i2) := by rw [HRr.out, orL_end HB2'.out, joinE_many 3 (by have := HMr.out.1; omega)]
          rw [HG.out, hend]
          have hLB : W.heap.size ≤ W1.heap.size := Nat.le_trans hk1.size HST.out.1
          have hst : Stay (fun b => W.heap.size ≤ b) wr (set8 w3 w.heap.size (.int .i64 4) (.int .i64 3) (.string ⟨#[]⟩) (.int .i64 0) (.int .i64 0) (.string ⟨#[]⟩) (.slice none 0 0) (.slice A acc.length c)) :=
            ⟨by rw [set8_size]; exact hb3.size, fun k hk hl => by rw [set8_far _ _ _ _ _ _ _ _ _ _ k (by omega)]; exact hb3.block k hl⟩
          have hml : acc.length ≤ maxLen := by have := HLr.out.1; unfold maxLen; omega
          refine ⟨mkOp 3 acc, i2, _, rfl, rfl, rfl, ?_, ?_, set8_kp (HKr.out.trans (Kp.of hb3)) (Nat.le_refl _) _ _ _ _ _ _ _ _⟩
          · exact (((mkOp_in 3 (HE.out.imp (fun k hk _ => hk.1)) hLB HO.out hml).keep hst).up hst.1).imp (fun k hk _ => by omega)
          · exact (HPr.out.below hb3).kp (set8_far _ _ _ _ _ _ _ _ _ _ g (by omega))
        · have HN := Lib.hid (next_any g s i2 wr HPr.out)
          have htl := words_tail HB2'.out
          obtain ⟨i3, hi3⟩ : ∃ i3, curAt s i2 + (curTx s i2).length = i3 := ⟨_, rfl⟩
          rw [hi3] at HN htl
          have HTL := Lib.hid htl
          clear hi3 htl
          go_wp2_with (first | (go_at_call 84; (with_reducible refine HI2.out.mono ?_); rintro e w3 ⟨rfl, rfl⟩) | (go_at_call 30; (with_reducible refine HN.out.mono ?_); rintro e w4 ⟨rfl, hp4, hk4⟩; have HP4 := Lib.hid hp4; have HK4 := Lib.hid hk4; clear hp4 hk4))
          have hcall := HPP.out (wordsOf s.data.toList i3) (by have := HTL.out.2; have := HLr.out.2; omega) g i3 _ HP4.out (HM.out.kp (HKr.out.trans HK4.out)) rfl
          obtain ⟨r2, hr2⟩ : ∃ r, Pz s.data.toList.length .and [] (wordsOf s.data.toList i3) = r := ⟨_, rfl⟩
          rw [hr2] at hcall
          refine hcall.mono ?_
          cases r2 with
          | err k =>
            rintro e w5 ⟨rfl, hk5⟩
            have hend : R = .err k := by rw [HRr.out, Pz_eq]; dsimp only [stepP]; rw [if_pos HB2'.out, ← HTL.out.1, hr2]; rfl
            go_wp2_with fail
            refine ⟨rfl, ?_⟩
            rw [HG.out, hend]
            exact ⟨rfl, (HKr.out.trans HK4.out).trans hk5⟩
          | ok es2 l2 =>
            rintro e w5 ⟨y, i4, ycs, rfl, rfl, rfl, hy, hp5, hk5⟩
            have HY := Lib.hid hy
            obtain ⟨hn3, hs3, hl3, ha3, hx3, hr3, hi3⟩ := hy
            rename_i A3 c3 A4 c4 ycs1
            clear hx3 hr3 hi3
            have exb : (exCells y A3 c3 A4 c4).toArray = #[.int .i64 y.k, .int .i64 y.op, .string y.nm, .int .i64 y.v.k, .int .i64 y.v.n, .string y.v.s, .slice A3 y.v.l.length c3, .slice A4 y.ar.length c4] := rfl
            rw [exb]
            have hk45 := HK4.out.trans hk5
            have hgW : g < W1.heap.size := HP1.out.b.lt
            have HO5 := Lib.hid (own_kp HO.out hk45 hgW)
            have HK5 := Lib.hid (HKr.out.trans hk45)
            have HK45 := Lib.hid hk45
            have HP5 := Lib.hid hp5
            have hb5 : W1.heap.size ≤ w5.heap.size := by have := HO5.out.2; exact Nat.le_trans HSZ.out hk45.size
            obtain ⟨i0, hi0, hz0, hz1, hz2⟩ := info_parts infoX
            have hal : acc.length ≤ 4001 := by have := HLr.out.1; omega
            go_wp2_with (at_builtin; refine wpList_append_lies _ rfl _ _ 25 rfl W1.heap.size 27 i0 (.agg #[.int .i64 0, .int .i64 0, .string ⟨#[]⟩, .int .i64 0, .int .i64 0, .string ⟨#[]⟩, .slice none 0 0, .slice none 0 0]) 8 112 Tryz.underlying25 hi0 hz0 hz1 hz2 rfl (by decide) _ _ _ rfl (HO5.out.alloc _) ⟨w5.heap.size, 0, none⟩ 1 1 [.int .i64 y.k, .int .i64 y.op, .string y.nm, .int .i64 y.v.k, .int .i64 y.v.n, .string y.v.s, .slice A3 y.v.l.length c3, .slice A4 y.ar.length c4] rfl rfl ?d1 ?d2 (by decide) ?d3 ?d4 ?d5 _ rfl ?_)
            case d1 => exact World.news_of_block (Blk.new w5 27 _)
            case d2 => intro u hu; simp only [List.mem_cons, List.not_mem_nil, or_false] at hu; rcases hu with rfl | rfl | rfl | rfl | rfl | rfl | rfl | rfl <;> rfl
            case d3 => unfold maxLen; omega
            case d4 => omega
            case d5 => simp; omega
            intro g7 cap w7 hown7 hg7 hat7 hlt7
            have hkal : Kp g w5 (w5.alloc (.cells #[.int .i64 y.k, .int .i64 y.op, .string y.nm, .int .i64 y.v.k, .int .i64 y.v.n, .string y.v.s, .slice A3 y.v.l.length c3, .slice A4 y.ar.length c4] 27 (0, 0))) := (kp_refl g w5).alloc _
            go_wp2_with fail
            go_roundw
            case rel =>
              have hob : ∀ k, (Value.slice A acc.length c).ownBlock = some k → W1.heap.size ≤ k := fun k hk => (HO5.out.lt k hk).1
              have hs7 := hg7.size
              have hgb : w7.heap[g]? = w5.heap[g]? := (hg7.block g (by have := HP5.out.b.lt; simp; omega) (fun e => by have := hob g e.symm; omega)).trans (Below.heap_alloc w5 _ g HP5.out.b.lt)
              refine ⟨acc ++ [y], css ++ [exCells y A3 c3 A4 c4], some ⟨g7, 0, none⟩, cap, i4, by simp, ?_, ?_, ?_, Lib.hid (HP5.out.kp hgb), ?_, ?_, ?_, ?_, ?_⟩
              · have h1 := HE.out.imp (q := fun b => (W.heap.size ≤ b ∧ some b ≠ (Value.slice A acc.length c).ownBlock) ∧ some b ≠ some g7) (fun k hk hl => ⟨hk, fun e => by
                  injection e with e
                  rcases hat7 with h | h
                  · exact hk.2 (by rw [h, e])
                  · have := hk45.size
                    try simp at h
                    omega⟩)
                have h2 := (h1.keep (w' := w7) ⟨by have := hk45.size; simp at hs7; omega, fun k hk hl => by
                  have hz := hk45.size
                  rw [hg7.block k (by simp; omega) hk.1.2, Below.heap_alloc w5 _ k (by omega)]
                  exact hk45.block k hl (fun e => by injection e with e; have := HPW.out.b.lt; have := hk.1.1; omega)⟩).imp (q := fun b => W.heap.size ≤ b ∧ some b ≠ (Value.slice (some ⟨g7, 0, none⟩) (acc ++ [y]).length cap).ownBlock) (fun k hk _ => ⟨hk.1.1, hk.2⟩)
                have hwo : ∀ k, (Value.slice A acc.length c).ownBlock = some k → k < wr.heap.size := fun k hk => (HO.out.lt k hk).2
                have hz4 := HK4.out.size
                have hzL : W.heap.size ≤ W1.heap.size := Nat.le_trans hk1.size HST.out.1
                have hz1 := HSZ.out
                have h3 := HY.out.imp (q := fun b => b < w5.heap.size ∧ (W.heap.size ≤ b ∧ some b ≠ (Value.slice (some ⟨g7, 0, none⟩) (acc ++ [y]).length cap).ownBlock) ∧ some b ≠ (Value.slice A acc.length c).ownBlock) (fun k hk hl => ⟨hl, ⟨by omega, fun e => by
                  have e' : k = g7 := by injection e
                  rcases hat7 with h | h
                  · have := hwo g7 h
                    omega
                  · try simp at h
                    omega⟩, fun e => by
                  have := hwo k e.symm
                  omega⟩)
                have h4 := ((h3.keep (w' := w7) ⟨by simp at hs7; omega, fun k hk hl => by
                  rw [hg7.block k (by simp; omega) hk.2.2, Below.heap_alloc w5 _ k hl]⟩).up (B' := w7.heap.size) (by simp at hs7; omega)).imp (q := fun b => W.heap.size ≤ b ∧ some b ≠ (Value.slice (some ⟨g7, 0, none⟩) (acc ++ [y]).length cap).ownBlock) (fun k hk _ => hk.2.1)
                exact Lib.hid (h2.snoc h4)
              · have e1 : (acc ++ [y]).length = acc.length + 1 := by simp
                have e2 : (css ++ [exCells y A3 c3 A4 c4]).flatten = css.flatten ++ exCells y A3 c3 A4 c4 := by simp
                rw [e1, e2]
                exact Lib.hid hown7
              · exact Lib.hid (by simp at hs7; omega)
              · exact Lib.hid ((HK5.out.alloc _).grown hg7 (fun k hk => by
                  have h1 := hob k hk
                  have h2 := HST.out.1
                  have h3 := hk1.size
                  omega))
              · have h2 := HST.out.1
                have h3 := hk1.size
                have h4 := HBr.out.lt
                have h5 := hk45.size
                have h6 : Blk w7 w.heap.size 27 #[.int .i64 0, .int .i64 0, .string ⟨#[]⟩, .int .i64 0, .int .i64 0, .string ⟨#[]⟩, .slice none 0 0, .slice none 0 0] := by
                  unfold Blk
                  rw [hg7.block _ (by simp; omega) (fun e => by have := hob _ e.symm; omega), Below.heap_alloc w5 _ _ (by omega), hk45.block _ h4 (fun e => by injection e with e; omega)]
                  exact HBr.out
                exact Lib.hid h6
              · have h1 : R = Pz s.data.toList.length .orL (acc ++ [y]) (wordsOf s.data.toList i4) := by rw [HRr.out, Pz_eq]; dsimp only [stepP]; rw [if_pos HB2'.out, ← HTL.out.1, hr2]; rfl
                exact Lib.hid h1
              · have h1 := Pz_len hr2
                have h2 := HTL.out.2
                have h3 := HLr.out
                exact Lib.hid ⟨by simp; omega, by omega⟩
              · have h1 := HMr.out.1
                exact Lib.hid ⟨by simp, fun e => by simp at e; rw [e] at h1; exact absurd h1 (by decide)⟩
            case measure =>
              have h1 := HLr.out.1
              have h2 := HTL.out.2
              simp
              omega
set_option maxHeartbeats 4000000 in
set_option maxRecDepth 100000 in
theorem several_not (g : Nat) (s : ByteArray) (i : Nat) (w : World) (h : PaAt w g s i) (hm : TM w g) (L : List Tok) (hL : wordsOf s.data.toList i = L) (hP : ∀ L', L'.length ≤ L.length → PSpec 86 .not s L') :
    Calls Tryz.prog 54 #[.pointer (some ⟨g, 0, none⟩), .string (tb andW), .int .i64 2, .func (.func 86) #[.pointer (some ⟨g, 0, none⟩)] #[]] w fun e w' => PRet w g s ((Pz s.data.toList.length .not [] L).bind fun es l1 => Pz s.data.toList.length .andL es l1) e w' := by
  have HPP := Lib.hid hP
  have hlt := h.b.lt
  have H1 := Lib.hid (fun W hp hm => hP L (Nat.le_refl _) g i W hp hm hL)
  have HM := Lib.hid hm
  obtain ⟨t, ht⟩ : ∃ t, tb andW = t := ⟨_, rfl⟩
  rw [ht]
  obtain ⟨r, hr⟩ : ∃ r, Pz s.data.toList.length .not [] L = r := ⟨_, rfl⟩
  rw [hr] at H1 ⊢
  have HR := Lib.hid hr
  have HPA := Lib.hid h
  have HT := Lib.hid ht
  clear hr hP h ht hm
  go_enter Tryz.func54, Tryz.ntmps54
  go_wp2_with fail
  obtain ⟨W, hW⟩ : ∃ W, W = w.alloc (.cells #[.int .i64 0, .int .i64 0, .string ⟨#[]⟩, .int .i64 0, .int .i64 0, .string ⟨#[]⟩, .slice none 0 0, .slice none 0 0] 27 (0, 0)) := ⟨_, rfl⟩
  have hkW : Kp g w W := by rw [hW]; exact (kp_refl g w).alloc _
  have HPW := Lib.hid (show PaAt W g s i by rw [hW]; exact HPA.out.alloc _)
  have BR : Blk W w.heap.size 27 #[.int .i64 0, .int .i64 0, .string ⟨#[]⟩, .int .i64 0, .int .i64 0, .string ⟨#[]⟩, .slice none 0 0, .slice none 0 0] := by rw [hW]; exact Blk.new w _ _
  have hWs : w.heap.size < W.heap.size := BR.lt
  rw [← hW]
  clear hW
  refine (H1.out W HPW.out (HM.out.kp hkW)).mono ?_
  cases r with
  | err k =>
    rintro e w1 ⟨rfl, hk1⟩
    go_wp2_with fail
    exact ⟨rfl, rfl, hkW.trans hk1⟩
  | ok es l1 =>
    rintro e w1 ⟨x, i1, cs, rfl, rfl, rfl, hx, hp1, hk1⟩
    have HX := Lib.hid hx
    obtain ⟨hn1, hs1, hl1, ha1, hx1, hr1, hi1⟩ := hx
    rename_i A1 c1 A2 c2 cs1
    clear hx1 hr1 hi1
    have HP := Lib.hid hp1
    have B1 : Blk w1 w.heap.size 27 #[.int .i64 0, .int .i64 0, .string ⟨#[]⟩, .int .i64 0, .int .i64 0, .string ⟨#[]⟩, .slice none 0 0, .slice none 0 0] := by unfold Blk; rw [hk1.block _ BR.lt (fun e => by injection e with e; omega)]; exact BR
    clear BR
    obtain ⟨b, hb⟩ : ∃ b, isW (wordsOf s.data.toList i1) andW = b := ⟨_, rfl⟩
    have HI := Lib.hid (fun (W' : World) (hp : PaAt W' g s i1) => is_any g s i1 W' hp andW (by decide))
    rw [hb, HT.out] at HI
    have HBW := Lib.hid hb
    have exa : (exCells x A1 c1 A2 c2).toArray = #[.int .i64 x.k, .int .i64 x.op, .string x.nm, .int .i64 x.v.k, .int .i64 x.v.n, .string x.v.s, .slice A1 x.v.l.length c1, .slice A2 x.ar.length c2] := rfl
    rw [exa]
    cases b
    · go_wp2_with fail
      obtain ⟨W1, hW1⟩ : ∃ W1, W1 = w1.alloc (.cells #[.int .i64 x.k, .int .i64 x.op, .string x.nm, .int .i64 x.v.k, .int .i64 x.v.n, .string x.v.s, .slice A1 x.v.l.length c1, .slice A2 x.ar.length c2] 27 (0, 0)) := ⟨_, rfl⟩
      have HK1 := Lib.hid (show Kp g w W1 by rw [hW1]; exact (hkW.trans hk1).alloc _)
      have HST := Lib.hid (show Stay (fun b => W.heap.size ≤ b) w1 W1 by rw [hW1]; exact Stay.of ((Below.refl _ _).alloc (Nat.le_refl _) _))
      have HP1 := Lib.hid (show PaAt W1 g s i1 by rw [hW1]; exact HP.out.alloc _)
      have BR : Blk W1 w.heap.size 27 #[.int .i64 0, .int .i64 0, .string ⟨#[]⟩, .int .i64 0, .int .i64 0, .string ⟨#[]⟩, .slice none 0 0, .slice none 0 0] := by rw [hW1]; exact B1.alloc _
      have BX : Blk W1 w1.heap.size 27 #[.int .i64 x.k, .int .i64 x.op, .string x.nm, .int .i64 x.v.k, .int .i64 x.v.n, .string x.v.s, .slice A1 x.v.l.length c1, .slice A2 x.ar.length c2] := by rw [hW1]; exact Blk.new w1 _ _
      rw [← hW1]
      clear hW1 B1
      have rc0 : W1.cell? ⟨w.heap.size, 0, none⟩ = some (.int .i64 0) := BR.cell 0
      have rz0 : W1.frozen? ⟨w.heap.size, 0, none⟩ = false := BR.frozen 0
      have rc1 : W1.cell? ⟨w.heap.size, 1, none⟩ = some (.int .i64 0) := BR.cell 1
      have rz1 : W1.frozen? ⟨w.heap.size, 1, none⟩ = false := BR.frozen 1
      have rc2 : W1.cell? ⟨w.heap.size, 2, none⟩ = some (.string ⟨#[]⟩) := BR.cell 2
      have rz2 : W1.frozen? ⟨w.heap.size, 2, none⟩ = false := BR.frozen 2
      have rc3 : W1.cell? ⟨w.heap.size, 3, none⟩ = some (.int .i64 0) := BR.cell 3
      have rz3 : W1.frozen? ⟨w.heap.size, 3, none⟩ = false := BR.frozen 3
      have rc4 : W1.cell? ⟨w.heap.size, 4, none⟩ = some (.int .i64 0) := BR.cell 4
      have rz4 : W1.frozen? ⟨w.heap.size, 4, none⟩ = false := BR.frozen 4
      have rc5 : W1.cell? ⟨w.heap.size, 5, none⟩ = some (.string ⟨#[]⟩) := BR.cell 5
      have rz5 : W1.frozen? ⟨w.heap.size, 5, none⟩ = false := BR.frozen 5
      have rc6 : W1.cell? ⟨w.heap.size, 6, none⟩ = some (.slice none 0 0) := BR.cell 6
      have rz6 : W1.frozen? ⟨w.heap.size, 6, none⟩ = false := BR.frozen 6
      have rc7 : W1.cell? ⟨w.heap.size, 7, none⟩ = some (.slice none 0 0) := BR.cell 7
      have rz7 : W1.frozen? ⟨w.heap.size, 7, none⟩ = false := BR.frozen 7
      have xc0 : W1.cell? ⟨w1.heap.size, 0, none⟩ = some (.int .i64 x.k) := BX.cell 0
      have xc1 : W1.cell? ⟨w1.heap.size, 1, none⟩ = some (.int .i64 x.op) := BX.cell 1
      have xc2 : W1.cell? ⟨w1.heap.size, 2, none⟩ = some (.string x.nm) := BX.cell 2
      have xc3 : W1.cell? ⟨w1.heap.size, 3, none⟩ = some (.int .i64 x.v.k) := BX.cell 3
      have xc4 : W1.cell? ⟨w1.heap.size, 4, none⟩ = some (.int .i64 x.v.n) := BX.cell 4
      have xc5 : W1.cell? ⟨w1.heap.size, 5, none⟩ = some (.string x.v.s) := BX.cell 5
      have xc6 : W1.cell? ⟨w1.heap.size, 6, none⟩ = some (.slice A1 x.v.l.length c1) := BX.cell 6
      have xc7 : W1.cell? ⟨w1.heap.size, 7, none⟩ = some (.slice A2 x.ar.length c2) := BX.cell 7
      go_wp2_with (go_at_call 84; (with_reducible refine (HI.out _ HP1.out).mono ?_); rintro e w2 ⟨rfl, rfl⟩)
      refine bodyPost_ret (v := .agg #[.int .i64 x.k, .int .i64 x.op, .string x.nm, .int .i64 x.v.k, .int .i64 x.v.n, .string x.v.s, .slice A1 x.v.l.length c1, .slice A2 x.ar.length c2]) (by simp [results, Tryz.results54, go_sem, rc0, rc1, rc2, rc3, rc4, rc5, rc6, rc7]) rfl ?_
      have hend : (Res.ok [x] (wordsOf s.data.toList i1)).bind (fun es l1 => Pz s.data.toList.length .andL es l1) = .ok [x] (wordsOf s.data.toList i1) := andL_end hb
      rw [hend]
      refine ⟨x, i1, exCells x A1 c1 A2 c2, rfl, rfl, rfl, ?_, ?_, set8_kp HK1.out (Nat.le_refl _) _ _ _ _ _ _ _ _⟩
      · have hst : Stay (fun b => W.heap.size ≤ b) w1 (set8 W1 w.heap.size (.int .i64 x.k) (.int .i64 x.op) (.string x.nm) (.int .i64 x.v.k) (.int .i64 x.v.n) (.string x.v.s) (.slice A1 x.v.l.length c1) (.slice A2 x.ar.length c2)) :=
          ⟨by rw [set8_size]; exact HST.out.1, fun k hk hl => by rw [set8_far _ _ _ _ _ _ _ _ _ _ k (by omega)]; exact HST.out.2 k hk hl⟩
        exact ((HX.out.keep hst).up hst.1).imp (fun k hk _ => by omega)
      · exact HP1.out.kp (set8_far _ _ _ _ _ _ _ _ _ _ g (by omega))
    · go_wp2_with fail
      obtain ⟨W1, hW1⟩ : ∃ W1, W1 = w1.alloc (.cells #[.int .i64 x.k, .int .i64 x.op, .string x.nm, .int .i64 x.v.k, .int .i64 x.v.n, .string x.v.s, .slice A1 x.v.l.length c1, .slice A2 x.ar.length c2] 27 (0, 0)) := ⟨_, rfl⟩
      have HK1 := Lib.hid (show Kp g w W1 by rw [hW1]; exact (hkW.trans hk1).alloc _)
      have HST := Lib.hid (show Stay (fun b => W.heap.size ≤ b) w1 W1 by rw [hW1]; exact Stay.of ((Below.refl _ _).alloc (Nat.le_refl _) _))
      have HP1 := Lib.hid (show PaAt W1 g s i1 by rw [hW1]; exact HP.out.alloc _)
      have BR : Blk W1 w.heap.size 27 #[.int .i64 0, .int .i64 0, .string ⟨#[]⟩, .int .i64 0, .int .i64 0, .string ⟨#[]⟩, .slice none 0 0, .slice none 0 0] := by rw [hW1]; exact B1.alloc _
      have BX : Blk W1 w1.heap.size 27 #[.int .i64 x.k, .int .i64 x.op, .string x.nm, .int .i64 x.v.k, .int .i64 x.v.n, .string x.v.s, .slice A1 x.v.l.length c1, .slice A2 x.ar.length c2] := by rw [hW1]; exact Blk.new w1 _ _
      rw [← hW1]
      clear hW1 B1
      have xc0 : W1.cell? ⟨w1.heap.size, 0, none⟩ = some (.int .i64 x.k) := BX.cell 0
      have xc1 : W1.cell? ⟨w1.heap.size, 1, none⟩ = some (.int .i64 x.op) := BX.cell 1
      have xc2 : W1.cell? ⟨w1.heap.size, 2, none⟩ = some (.string x.nm) := BX.cell 2
      have xc3 : W1.cell? ⟨w1.heap.size, 3, none⟩ = some (.int .i64 x.v.k) := BX.cell 3
      have xc4 : W1.cell? ⟨w1.heap.size, 4, none⟩ = some (.int .i64 x.v.n) := BX.cell 4
      have xc5 : W1.cell? ⟨w1.heap.size, 5, none⟩ = some (.string x.v.s) := BX.cell 5
      have xc6 : W1.cell? ⟨w1.heap.size, 6, none⟩ = some (.slice A1 x.v.l.length c1) := BX.cell 6
      have xc7 : W1.cell? ⟨w1.heap.size, 7, none⟩ = some (.slice A2 x.ar.length c2) := BX.cell 7
      go_wp2_with (go_at_call 84; (with_reducible refine (HI.out _ HP1.out).mono ?_); rintro e w2 ⟨rfl, rfl⟩)
      obtain ⟨W2, hW2⟩ : ∃ W2, W2 = W1.alloc (.cells #[.int .i64 x.k, .int .i64 x.op, .string x.nm, .int .i64 x.v.k, .int .i64 x.v.n, .string x.v.s, .slice A1 x.v.l.length c1, .slice A2 x.ar.length c2] 27 (0, 0)) := ⟨_, rfl⟩
      have HK2 := Lib.hid (show Kp g w W2 by rw [hW2]; exact HK1.out.alloc _)
      have HP2 := Lib.hid (show PaAt W2 g s i1 by rw [hW2]; exact HP1.out.alloc _)
      have HB2 := Lib.hid (show Blk W2 w.heap.size 27 #[.int .i64 0, .int .i64 0, .string ⟨#[]⟩, .int .i64 0, .int .i64 0, .string ⟨#[]⟩, .slice none 0 0, .slice none 0 0] by rw [hW2]; exact BR.alloc _)
      have HO2 := Lib.hid (show W2.ownsRow W1.heap.size 27 8 (.slice (some ⟨W1.heap.size, 0, none⟩) 1 1) 1 (exCells x A1 c1 A2 c2) by rw [hW2]; exact own_new (Blk.new W1 _ _) (Nat.le_refl _) rfl)
      have HX2 := Lib.hid (show ExIn W2 (fun b => W.heap.size ≤ b ∧ b ≠ W1.heap.size) W2.heap.size x (exCells x A1 c1 A2 c2) by
        have h1 := (HX.out.keep HST.out).imp (q := fun b => W.heap.size ≤ b ∧ b ≠ W1.heap.size) (fun k hk hl => ⟨hk, by have := HST.out.1; omega⟩)
        rw [hW2]
        exact (h1.keep (Stay.of ((Below.refl _ _).alloc (Nat.le_refl _) _))).up (by have := HST.out.1; simp; omega))
      have hsz2 : W2.heap.size = W1.heap.size + 1 := by rw [hW2]; simp
      rw [← hW2]
      clear hW2 BR BX xc0 xc1 xc2 xc3 xc4 xc5 xc6 xc7
      obtain ⟨R, hR⟩ : ∃ R, Pz s.data.toList.length .andL [x] (wordsOf s.data.toList i1) = R := ⟨_, rfl⟩
      have HRR := Lib.hid hR.symm
      have hgoal : ((Res.ok [x] (wordsOf s.data.toList i1)).bind fun es l1 => Pz s.data.toList.length .andL es l1) = R := hR
      have HG := Lib.hid hgoal
      clear hgoal hR
      go_loopw [10] (fun v wr => ∃ (acc : List Ex) (css : List (List Value)) (A : Option Addr) (c i2 : Nat), v = .slice A acc.length c ∧ Hid (ExsIn wr (fun b => W.heap.size ≤ b ∧ some b ≠ (Value.slice A acc.length c).ownBlock) acc css) ∧ Hid (wr.ownsRow W1.heap.size 27 8 (.slice A acc.length c) acc.length css.flatten) ∧ Hid (W1.heap.size ≤ wr.heap.size) ∧ Hid (PaAt wr g s i2) ∧ Hid (Kp g w wr) ∧ Hid (Blk wr w.heap.size 27 #[.int .i64 0, .int .i64 0, .string ⟨#[]⟩, .int .i64 0, .int .i64 0, .string ⟨#[]⟩, .slice none 0 0, .slice none 0 0]) ∧ Hid (R = Pz s.data.toList.length .andL acc (wordsOf s.data.toList i2)) ∧ Hid (acc.length + (wordsOf s.data.toList i2).length ≤ 4001 ∧ (wordsOf s.data.toList i2).length ≤ L.length) ∧ Hid (1 ≤ acc.length ∧ (acc.length = 1 → isW (wordsOf s.data.toList i2) andW = true))) (fun v _ => 4001 - (match v with
        | .slice _ n _ => n
        | _ => 0))
      case atStart =>
        refine ⟨[x], [exCells x A1 c1 A2 c2], some ⟨W1.heap.size, 0, none⟩, 1, i1, rfl, ?_, ?_, ?_, HP2, HK2, HB2, HRR, ?_, Lib.hid ⟨Nat.le_refl _, fun _ => HBW.out⟩⟩
        · exact Lib.hid (ExsIn.one (HX2.out.imp (fun k hk _ => ⟨hk.1, fun e => hk.2 (by injection e)⟩)))
        · exact Lib.hid (by simpa using HO2.out)
        · exact Lib.hid (by omega)
        · have h1 := Pz_len HR.out
          have h2 := words_len s.data.toList (s.data.toList.length + 1) i1
          rw [data_len] at h2
          have h3 : (wordsOf s.data.toList i1).length ≤ 4000 := by have := HP.out.s; unfold wordsOf; rw [data_len]; omega
          exact Lib.hid ⟨by simp; omega, h1⟩
      case round =>
        obtain ⟨acc, css, A, c, i2, rfl, HE, HO, HSZ, HPr, HKr, HBr, HRr, HLr, HMr⟩ := hrel
        obtain ⟨b2, hb2⟩ : ∃ b, isW (wordsOf s.data.toList i2) andW = b := ⟨_, rfl⟩
        have HI2 := Lib.hid (is_any g s i2 wr HPr.out andW (by decide))
        rw [hb2, HT.out] at HI2
        have HB2' := Lib.hid hb2
        clear hb2
        cases b2
        · go_wp2_with (go_at_call 84; (with_reducible refine HI2.out.mono ?_); rintro e w3 ⟨rfl, rfl⟩)
          refine (operation_any 2 A acc.length c wr).mono ?_
          rintro e w3 ⟨rfl, hb3⟩
          have B3 := HBr.out.below hb3 HBr.out.lt
          have rc0 : w3.cell? ⟨w.heap.size, 0, none⟩ = some (.int .i64 0) := B3.cell 0
          have rz0 : w3.frozen? ⟨w.heap.size, 0, none⟩ = false := B3.frozen 0
          have rc1 : w3.cell? ⟨w.heap.size, 1, none⟩ = some (.int .i64 0) := B3.cell 1
          have rz1 : w3.frozen? ⟨w.heap.size, 1, none⟩ = false := B3.frozen 1
          have rc2 : w3.cell? ⟨w.heap.size, 2, none⟩ = some (.string ⟨#[]⟩) := B3.cell 2
          have rz2 : w3.frozen? ⟨w.heap.size, 2, none⟩ = false := B3.frozen 2
          have rc3 : w3.cell? ⟨w.heap.size, 3, none⟩ = some (.int .i64 0) := B3.cell 3
          have rz3 : w3.frozen? ⟨w.heap.size, 3, none⟩ = false := B3.frozen 3
          have rc4 : w3.cell? ⟨w.heap.size, 4, none⟩ = some (.int .i64 0) := B3.cell 4
          have rz4 : w3.frozen? ⟨w.heap.size, 4, none⟩ = false := B3.frozen 4
          have rc5 : w3.cell? ⟨w.heap.size, 5, none⟩ = some (.string ⟨#[]⟩) := B3.cell 5
          have rz5 : w3.frozen? ⟨w.heap.size, 5, none⟩ = false := B3.frozen 5
          have rc6 : w3.cell? ⟨w.heap.size, 6, none⟩ = some (.slice none 0 0) := B3.cell 6
          have rz6 : w3.frozen? ⟨w.heap.size, 6, none⟩ = false := B3.frozen 6
          have rc7 : w3.cell? ⟨w.heap.size, 7, none⟩ = some (.slice none 0 0) := B3.cell 7
          have rz7 : w3.frozen? ⟨w.heap.size, 7, none⟩ = false := B3.frozen 7
          go_wp2_with fail
          refine bodyPost_ret (v := .agg #[.int .i64 4, .int .i64 2, .string ⟨#[]⟩, .int .i64 0, .int .i64 0, .string ⟨#[]⟩, .slice none 0 0, .slice A acc.length c]) (by simp [results, Tryz.results54, go_sem, rc0, rc1, rc2, rc3, rc4, rc5, rc6, rc7]) rfl ?_
          have hne : acc.length ≠ 1 := fun e => by have := HMr.out.2 e; rw [HB2'.out] at this; cases this
          have hend : R = .ok [mkOp 2 acc] (wordsOf s.data.toList i2) := by rw [HRr.out, andL_end HB2'.out, joinE_many 2 (by have := HMr.out.1; omega)]
          rw [HG.out, hend]
          have hLB : W.heap.size ≤ W1.heap.size := Nat.le_trans hk1.size HST.out.1
          have hst : Stay (fun b => W.heap.size ≤ b) wr (set8 w3 w.heap.size (.int .i64 4) (.int .i64 2) (.string ⟨#[]⟩) (.int .i64 0) (.int .i64 0) (.string ⟨#[]⟩) (.slice none 0 0) (.slice A acc.length c)) :=
            ⟨by rw [set8_size]; exact hb3.size, fun k hk hl => by rw [set8_far _ _ _ _ _ _ _ _ _ _ k (by omega)]; exact hb3.block k hl⟩
          have hml : acc.length ≤ maxLen := by have := HLr.out.1; unfold maxLen; omega
          refine ⟨mkOp 2 acc, i2, _, rfl, rfl, rfl, ?_, ?_, set8_kp (HKr.out.trans (Kp.of hb3)) (Nat.le_refl _) _ _ _ _ _ _ _ _⟩
          · exact (((mkOp_in 2 (HE.out.imp (fun k hk _ => hk.1)) hLB HO.out hml).keep hst).up hst.1).imp (fun k hk _ => by omega)
          · exact (HPr.out.below hb3).kp (set8_far _ _ _ _ _ _ _ _ _ _ g (by omega))
        · have HN := Lib.hid (next_any g s i2 wr HPr.out)
          have htl := words_tail HB2'.out
          obtain ⟨i3, hi3⟩ : ∃ i3, curAt s i2 + (curTx s i2).length = i3 := ⟨_, rfl⟩
          rw [hi3] at HN htl
          have HTL := Lib.hid htl
          clear hi3 htl
          go_wp2_with (first | (go_at_call 84; (with_reducible refine HI2.out.mono ?_); rintro e w3 ⟨rfl, rfl⟩) | (go_at_call 30; (with_reducible refine HN.out.mono ?_); rintro e w4 ⟨rfl, hp4, hk4⟩; have HP4 := Lib.hid hp4; have HK4 := Lib.hid hk4; clear hp4 hk4))
          have hcall := HPP.out (wordsOf s.data.toList i3) (by have := HTL.out.2; have := HLr.out.2; omega) g i3 _ HP4.out (HM.out.kp (HKr.out.trans HK4.out)) rfl
          obtain ⟨r2, hr2⟩ : ∃ r, Pz s.data.toList.length .not [] (wordsOf s.data.toList i3) = r := ⟨_, rfl⟩
          rw [hr2] at hcall
          refine hcall.mono ?_
          cases r2 with
          | err k =>
            rintro e w5 ⟨rfl, hk5⟩
            have hend : R = .err k := by rw [HRr.out, Pz_eq]; dsimp only [stepP]; rw [if_pos HB2'.out, ← HTL.out.1, hr2]; rfl
            go_wp2_with fail
            refine ⟨rfl, ?_⟩
            rw [HG.out, hend]
            exact ⟨rfl, (HKr.out.trans HK4.out).trans hk5⟩
          | ok es2 l2 =>
            rintro e w5 ⟨y, i4, ycs, rfl, rfl, rfl, hy, hp5, hk5⟩
            have HY := Lib.hid hy
            obtain ⟨hn3, hs3, hl3, ha3, hx3, hr3, hi3⟩ := hy
            rename_i A3 c3 A4 c4 ycs1
            clear hx3 hr3 hi3
            have exb : (exCells y A3 c3 A4 c4).toArray = #[.int .i64 y.k, .int .i64 y.op, .string y.nm, .int .i64 y.v.k, .int .i64 y.v.n, .string y.v.s, .slice A3 y.v.l.length c3, .slice A4 y.ar.length c4] := rfl
            rw [exb]
            have hk45 := HK4.out.trans hk5
            have hgW : g < W1.heap.size := HP1.out.b.lt
            have HO5 := Lib.hid (own_kp HO.out hk45 hgW)
            have HK5 := Lib.hid (HKr.out.trans hk45)
            have HK45 := Lib.hid hk45
            have HP5 := Lib.hid hp5
            have hb5 : W1.heap.size ≤ w5.heap.size := by have := HO5.out.2; exact Nat.le_trans HSZ.out hk45.size
            obtain ⟨i0, hi0, hz0, hz1, hz2⟩ := info_parts infoX
            have hal : acc.length ≤ 4001 := by have := HLr.out.1; omega
            go_wp2_with (at_builtin; refine wpList_append_lies _ rfl _ _ 25 rfl W1.heap.size 27 i0 (.agg #[.int .i64 0, .int .i64 0, .string ⟨#[]⟩, .int .i64 0, .int .i64 0, .string ⟨#[]⟩, .slice none 0 0, .slice none 0 0]) 8 112 Tryz.underlying25 hi0 hz0 hz1 hz2 rfl (by decide) _ _ _ rfl (HO5.out.alloc _) ⟨w5.heap.size, 0, none⟩ 1 1 [.int .i64 y.k, .int .i64 y.op, .string y.nm, .int .i64 y.v.k, .int .i64 y.v.n, .string y.v.s, .slice A3 y.v.l.length c3, .slice A4 y.ar.length c4] rfl rfl ?d1 ?d2 (by decide) ?d3 ?d4 ?d5 _ rfl ?_)
            case d1 => exact World.news_of_block (Blk.new w5 27 _)
            case d2 => intro u hu; simp only [List.mem_cons, List.not_mem_nil, or_false] at hu; rcases hu with rfl | rfl | rfl | rfl | rfl | rfl | rfl | rfl <;> rfl
            case d3 => unfold maxLen; omega
            case d4 => omega
            case d5 => simp; omega
            intro g7 cap w7 hown7 hg7 hat7 hlt7
            have hkal : Kp g w5 (w5.alloc (.cells #[.int .i64 y.k, .int .i64 y.op, .string y.nm, .int .i64 y.v.k, .int .i64 y.v.n, .string y.v.s, .slice A3 y.v.l.length c3, .slice A4 y.ar.length c4] 27 (0, 0))) := (kp_refl g w5).alloc _
            go_wp2_with fail
            go_roundw
            case rel =>
              have hob : ∀ k, (Value.slice A acc.length c).ownBlock = some k → W1.heap.size ≤ k := fun k hk => (HO5.out.lt k hk).1
              have hs7 := hg7.size
              have hgb : w7.heap[g]? = w5.heap[g]? := (hg7.block g (by have := HP5.out.b.lt; simp; omega) (fun e => by have := hob g e.symm; omega)).trans (Below.heap_alloc w5 _ g HP5.out.b.lt)
              refine ⟨acc ++ [y], css ++ [exCells y A3 c3 A4 c4], some ⟨g7, 0, none⟩, cap, i4, by simp, ?_, ?_, ?_, Lib.hid (HP5.out.kp hgb), ?_, ?_, ?_, ?_, ?_⟩
              · have h1 := HE.out.imp (q := fun b => (W.heap.size ≤ b ∧ some b ≠ (Value.slice A acc.length c).ownBlock) ∧ some b ≠ some g7) (fun k hk hl => ⟨hk, fun e => by
                  injection e with e
                  rcases hat7 with h | h
                  · exact hk.2 (by rw [h, e])
                  · have := hk45.size
                    try simp at h
                    omega⟩)
                have h2 := (h1.keep (w' := w7) ⟨by have := hk45.size; simp at hs7; omega, fun k hk hl => by
                  have hz := hk45.size
                  rw [hg7.block k (by simp; omega) hk.1.2, Below.heap_alloc w5 _ k (by omega)]
                  exact hk45.block k hl (fun e => by injection e with e; have := HPW.out.b.lt; have := hk.1.1; omega)⟩).imp (q := fun b => W.heap.size ≤ b ∧ some b ≠ (Value.slice (some ⟨g7, 0, none⟩) (acc ++ [y]).length cap).ownBlock) (fun k hk _ => ⟨hk.1.1, hk.2⟩)
                have hwo : ∀ k, (Value.slice A acc.length c).ownBlock = some k → k < wr.heap.size := fun k hk => (HO.out.lt k hk).2
                have hz4 := HK4.out.size
                have hzL : W.heap.size ≤ W1.heap.size := Nat.le_trans hk1.size HST.out.1
                have hz1 := HSZ.out
                have h3 := HY.out.imp (q := fun b => b < w5.heap.size ∧ (W.heap.size ≤ b ∧ some b ≠ (Value.slice (some ⟨g7, 0, none⟩) (acc ++ [y]).length cap).ownBlock) ∧ some b ≠ (Value.slice A acc.length c).ownBlock) (fun k hk hl => ⟨hl, ⟨by omega, fun e => by
                  have e' : k = g7 := by injection e
                  rcases hat7 with h | h
                  · have := hwo g7 h
                    omega
                  · try simp at h
                    omega⟩, fun e => by
                  have := hwo k e.symm
                  omega⟩)
                have h4 := ((h3.keep (w' := w7) ⟨by simp at hs7; omega, fun k hk hl => by
                  rw [hg7.block k (by simp; omega) hk.2.2, Below.heap_alloc w5 _ k hl]⟩).up (B' := w7.heap.size) (by simp at hs7; omega)).imp (q := fun b => W.heap.size ≤ b ∧ some b ≠ (Value.slice (some ⟨g7, 0, none⟩) (acc ++ [y]).length cap).ownBlock) (fun k hk _ => hk.2.1)
                exact Lib.hid (h2.snoc h4)
              · have e1 : (acc ++ [y]).length = acc.length + 1 := by simp
                have e2 : (css ++ [exCells y A3 c3 A4 c4]).flatten = css.flatten ++ exCells y A3 c3 A4 c4 := by simp
                rw [e1, e2]
                exact Lib.hid hown7
              · exact Lib.hid (by simp at hs7; omega)
              · exact Lib.hid ((HK5.out.alloc _).grown hg7 (fun k hk => by
                  have h1 := hob k hk
                  have h2 := HST.out.1
                  have h3 := hk1.size
                  omega))
              · have h2 := HST.out.1
                have h3 := hk1.size
                have h4 := HBr.out.lt
                have h5 := hk45.size
                have h6 : Blk w7 w.heap.size 27 #[.int .i64 0, .int .i64 0, .string ⟨#[]⟩, .int .i64 0, .int .i64 0, .string ⟨#[]⟩, .slice none 0 0, .slice none 0 0] := by
                  unfold Blk
                  rw [hg7.block _ (by simp; omega) (fun e => by have := hob _ e.symm; omega), Below.heap_alloc w5 _ _ (by omega), hk45.block _ h4 (fun e => by injection e with e; omega)]
                  exact HBr.out
                exact Lib.hid h6
              · have h1 : R = Pz s.data.toList.length .andL (acc ++ [y]) (wordsOf s.data.toList i4) := by rw [HRr.out, Pz_eq]; dsimp only [stepP]; rw [if_pos HB2'.out, ← HTL.out.1, hr2]; rfl
                exact Lib.hid h1
              · have h1 := Pz_len hr2
                have h2 := HTL.out.2
                have h3 := HLr.out
                exact Lib.hid ⟨by simp; omega, by omega⟩
              · have h1 := HMr.out.1
                exact Lib.hid ⟨by simp, fun e => by simp at e; rw [e] at h1; exact absurd h1 (by decide)⟩
            case measure =>
              have h1 := HLr.out.1
              have h2 := HTL.out.2
              simp
              omega
end Go.Proofs.YtobanldeicclmaaGreatDoor
