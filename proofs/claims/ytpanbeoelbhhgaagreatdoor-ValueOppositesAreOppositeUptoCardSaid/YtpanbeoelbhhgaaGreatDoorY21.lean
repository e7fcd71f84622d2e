/- Searches in rows of values; extreme. · The bound of a cell at a row. · Own rows of values; slices.DeleteFunc at values. · slices.DeleteFunc at values. -/
import Derived.Test.YtpanbeoelbhhgaaGreatDoorY20
import Derived.Test.YtpanbeoelbhhgaaGreatDoorY16
import Derived.Test.YtpanbeoelbhhgaaGreatDoorY12
import Derived.Lib.SliceRun
import Derived.Deep.AppendLies
namespace Go.Proofs.YtpanbeoelbhhgaaGreatDoor
open Go.RowKit
attribute [local go_sem ↓] Go.wp_at_zero Go.wp_at_succ
set_option maxHeartbeats 4000000
set_option maxRecDepth 100000
theorem VAt.back {w w' : World} {B B' : Nat} {v : Val} {cs : List Value} (h : VAt w' B v cs) (hb : Below B' w w') (hB : B ≤ B') : VAt w B v cs := by
  obtain ⟨⟨A, c, e, hx⟩, h1, h2⟩ := h
  exact ⟨⟨A, c, e, hx.keep fun p hp => (hb.cell (by omega)).symm⟩, h1, h2⟩
/-- a predicate of values as the program calls it -/
structure PredV (CAL : FuncId) (p : Val → Bool) : Prop where
  cf : ∀ (a : Array Value) (W : World), (callFunc CAL a).run Tryz.prog W = .ok (.enter CAL a) W
  call : ∀ (W : World) (v : Val) (A : Option Addr) (c : Nat), Calls Tryz.prog CAL #[.agg #[.int .i64 v.k, .int .i64 v.n, .string v.s, .slice A v.l.length c]] W fun e w' => e = .returned (.bool (p v)) ∧ Below W.heap.size W w'
def idxI (p : Val → Bool) (vs : List Val) : Int := if vs.any p = true then (vs.findIdx p : Nat) else -1
theorem idxI_hit {p : Val → Bool} {vs : List Val} {k : Nat} (hk : k < vs.length) (h : p vs[k] = true) (hn : ∀ j (hj : j < vs.length), j < k → p vs[j] = false) : idxI p vs = k := by
  unfold idxI
  rw [if_pos (List.any_eq_true.2 ⟨_, List.getElem_mem hk, h⟩)]
  congr 1
  refine (List.findIdx_eq hk).2 ⟨h, fun j hj => ?_⟩
  have := hn j (by omega) hj
  simpa using this
theorem idxI_none {p : Val → Bool} {vs : List Val} (hn : ∀ j (hj : j < vs.length), p vs[j] = false) : idxI p vs = -1 := by
  unfold idxI
  rw [if_neg]
  intro h
  obtain ⟨v, hv, hp⟩ := List.any_eq_true.1 h
  obtain ⟨j, hj, rfl⟩ := List.mem_iff_getElem.1 hv
  rw [hn j hj] at hp
  cases hp
theorem indexFunc_any {CAL : FuncId} {p : Val → Bool} (hP : PredV CAL p) (vs : List Val) (A : Option Addr) (c B0 B : Nat) (w : World) (hA : ArgsAt B0 w B A vs) (hB : B ≤ w.heap.size) (hB0 : B0 ≤ B) :
    Calls Tryz.prog 117 #[.slice A vs.length c, .func (.func CAL) #[] #[]] w fun e w' => e = .returned (.int .i64 (idxI p vs)) ∧ Below w.heap.size w w' := by
  have hCF := hP.cf
  have HA := Lib.hid (And.intro hA (And.intro hB hB0))
  have HP := Lib.hid hP
  have hll := hA.1
  unfold maxLen at hll
  clear hA hP
  go_enter Tryz.func117, Tryz.ntmps117
  go_wp2_with fail
  go_loopw [8, 5] (fun i _ wr => ∃ k : Nat, k ≤ vs.length ∧ i = .int .i64 k ∧ Below w.heap.size w wr ∧ Hid (∀ j (hj : j < vs.length), j < k → p vs[j] = false)) (fun i _ _ => vs.length - (intOf i).toNat)
  case atStart => exact ⟨0, Nat.zero_le _, rfl, Below.refl _ _, Lib.hid (fun j _ h => absurd h (Nat.not_lt_zero _))⟩
  case round =>
    obtain ⟨k, hk, rfl, hbr, HN⟩ := hrel
    by_cases hlt : k < vs.length
    · obtain ⟨b, o, rfl, hb, hc⟩ := HA.out.1.base (by omega)
      obtain ⟨Ai, ci, hv⟩ := hc k hlt
      have hv := hv.keep (hbr.mono HA.out.2.1) HA.out.2.2 hb
      obtain ⟨v, hvv⟩ : ∃ v, vs[k] = v := ⟨_, rfl⟩
      have HVV := Lib.hid hvv
      rw [hvv] at hv
      have HC := Lib.hid (HP.out.call wr v Ai ci)
      have c0 := hv.c0
      have c1 := hv.c1
      have c2 := hv.c2
      have c3 := hv.c3
      have hlI : (k : Int) < (vs.length : Nat) := by omega
      have HLT := Lib.hid hlt
      clear hc hb
      obtain ⟨q, hq⟩ : ∃ q, p v = q := ⟨_, rfl⟩
      rw [hq] at HC
      cases q
      · go_wp2_with (go_at_fn CAL; refine HC.out.mono ?_; rintro e w2 ⟨rfl, hb2⟩)
        go_roundw
        case rel => exact ⟨k + 1, HLT.out, by go_num, hbr.trans (hb2.mono hbr.size), Lib.hid (fun j hj h => by
          by_cases e : j = k
          · subst e; rw [HVV.out]; exact hq
          · exact HN.out j hj (by omega))⟩
        case measure =>
          have := HLT.out
          simp [intOf]
          omega
      · have HR := Lib.hid (show idxI p vs = k from idxI_hit HLT.out (by rw [HVV.out]; exact hq) HN.out)
        go_wp2_with (go_at_fn CAL; refine HC.out.mono ?_; rintro e w2 ⟨rfl, hb2⟩)
        go_ret
        exact ⟨ret_int (by rw [HR.out]), hbr.trans (hb2.mono hbr.size)⟩
    · have HR := Lib.hid (show idxI p vs = -1 from idxI_none (fun j hj => HN.out j hj (by omega)))
      go_wp2_with fail
      go_ret
      exact ⟨ret_int (by rw [HR.out]), hbr⟩
theorem containsFunc_any {CAL : FuncId} {p : Val → Bool} (hP : PredV CAL p) (vs : List Val) (A : Option Addr) (c B0 B : Nat) (w : World) (hA : ArgsAt B0 w B A vs) (hB : B ≤ w.heap.size) (hB0 : B0 ≤ B) :
    Calls Tryz.prog 79 #[.slice A vs.length c, .func (.func CAL) #[] #[]] w fun e w' => e = .returned (.bool (vs.any p)) ∧ Below w.heap.size w w' := by
  have HI := Lib.hid (indexFunc_any hP vs A c B0 B w hA hB hB0)
  have HR := Lib.hid (show decide (0 ≤ idxI p vs) = vs.any p by unfold idxI; cases h : vs.any p <;> simp)
  clear hA hP
  obtain ⟨q, hq⟩ : ∃ q, idxI p vs = q := ⟨_, rfl⟩
  rw [hq] at HI HR
  go_enter Tryz.func79, Tryz.ntmps79
  go_wp2_with (go_at_call 117; refine HI.out.mono ?_; rintro e w2 ⟨rfl, hb2⟩)
  go_ret
  exact ⟨ret_bool (by rw [← HR.out]), hb2⟩
theorem pred_missing : PredV 52 missV := ⟨fun a W => by simp [callFunc, go_sem, Tryz.func52, Tryz.f52], fun W v A c => missing_any v.k v.n v.s _ W⟩
theorem pred_true : PredV 51 isT := ⟨fun a W => by simp [callFunc, go_sem, Tryz.func51, Tryz.f51], fun W v A c => isTrue_any v.k v.n v.s _ W⟩
theorem pred_false : PredV 80 (fun v => !isT v) := ⟨fun a W => by simp [callFunc, go_sem, Tryz.func80, Tryz.f80], fun W v A c => by
  obtain ⟨W2, hW2⟩ : ∃ W2, W2 = W.alloc (.cells #[.int .i64 v.k, .int .i64 v.n, .string v.s, .slice A v.l.length c] 24 (0, 0)) := ⟨_, rfl⟩
  have hbw : Below W.heap.size W W2 := hW2 ▸ below_a W _
  obtain ⟨c0, -, c1, -, c2, -, c3, -⟩ := Blk.z4 (show Blk W2 W.heap.size 24 #[.int .i64 v.k, .int .i64 v.n, .string v.s, .slice A v.l.length c] from hW2 ▸ Blk.new W _ _)
  have HT := Lib.hid (isTrue_any v.k v.n v.s (.slice A v.l.length c) W2)
  go_enter Tryz.func80, Tryz.ntmps80
  go_upto_region 1 with (fail)
  rw [← hW2]
  clear hW2
  go_wp2_with (go_at_call 51; refine HT.out.mono ?_; rintro e w2 ⟨rfl, hb2⟩)
  go_ret
  exact ⟨ret_bool (by unfold isT; rw [Bool.not_and]), hbw.trans (hb2.mono hbw.size)⟩⟩
theorem best_snoc (most : Bool) (v : Val) : ∀ (l : List Val) (out : Val), bestV most (l ++ [v]) out = if betterB most v (bestV most l out) = true then v else bestV most l out
  | [], out => rfl
  | a :: r, out => by rw [List.cons_append, bestV, best_snoc most v r, bestV]
theorem ext_step (most : Bool) (vs : List Val) (k : Nat) (hk : k < vs.length) : extremeV most (vs.take (k + 1)) = if k = 0 ∨ betterB most vs[k] (extremeV most (vs.take k)) = true then vs[k] else extremeV most (vs.take k) := by
  rw [List.take_succ_eq_append_getElem hk]
  cases vs with
  | nil => cases hk
  | cons a r =>
    cases k with
    | zero => simp [extremeV, bestV]
    | succ k =>
      rw [List.take_succ_cons, List.cons_append, extremeV, best_snoc, extremeV]
      simp
theorem extreme_any (most : Bool) (vs : List Val) (A : Option Addr) (c B0 B : Nat) (w : World) (hA : ArgsAt B0 w B A vs) (hB : B ≤ w.heap.size) (hB0 : B0 ≤ B) :
    Calls Tryz.prog 78 #[.slice A vs.length c, .bool most] w fun e w' => (∃ x, e = .returned x ∧ VRet w' B0 (extremeV most vs) x) ∧ Below w.heap.size w w' := by
  have HA := Lib.hid (And.intro hA (And.intro hB hB0))
  have hll := hA.1
  unfold maxLen at hll
  obtain ⟨W, hW, hbw, BR, BO, hsz⟩ := box2 w 24 24 #[.int .i64 0, .int .i64 0, .string ⟨#[]⟩, .slice none 0 0] #[.int .i64 0, .int .i64 0, .string ⟨#[]⟩, .slice none 0 0]
  have hBR0 := Lib.hid BR
  have hZ : VAt W B0 zeroV [.int .i64 0, .int .i64 0, .string ⟨#[]⟩, .slice none 0 0] := VAt.bare rfl (Nat.zero_le _)
  have HBO := Lib.hid BO
  have HW := Lib.hid hW
  clear hA
  go_enter Tryz.func78, Tryz.ntmps78
  go_upto_region 2 with (fail)
  rw [← hW]
  clear hW
  go_wp2_with fail
  go_loopw [11, 6, 7] (fun i _ _ wr => ∃ (k : Nat) (x : Val) (Ax : Option Addr) (cx : Nat), k ≤ vs.length ∧ i = .int .i64 k ∧ Hid (Blk wr (w.heap.size + 1) 24 #[.int .i64 x.k, .int .i64 x.n, .string x.s, .slice Ax x.l.length cx] ∧ VAt wr B0 x [.int .i64 x.k, .int .i64 x.n, .string x.s, .slice Ax x.l.length cx] ∧ x = extremeV most (vs.take k) ∧ Blk wr w.heap.size 24 #[.int .i64 0, .int .i64 0, .string ⟨#[]⟩, .slice none 0 0]) ∧ Below w.heap.size w wr) (fun i _ _ _ => vs.length - (intOf i).toNat)
  case atStart => exact ⟨0, zeroV, none, 0, Nat.zero_le _, rfl, Lib.hid ⟨BO, hZ, rfl, BR⟩, hbw⟩
  case round =>
    clear BR BO hZ
    obtain ⟨k, x, Ax, cx, hk, rfl, HX, hbr⟩ := hrel
    by_cases hlt : k < vs.length
    · obtain ⟨b, o, rfl, hb, hc⟩ := HA.out.1.base (by omega)
      obtain ⟨Ai, ci, hv⟩ := hc k hlt
      have hv := hv.keep (hbr.mono HA.out.2.1) HA.out.2.2 hb
      obtain ⟨v, hvv⟩ : ∃ v, vs[k] = v := ⟨_, rfl⟩
      have HST := Lib.hid (ext_step most vs k hlt)
      rw [hvv, ← HX.out.2.2.1] at HST
      rw [hvv] at hv
      have HVA := Lib.hid hv
      have c0 := hv.c0
      have c1 := hv.c1
      have c2 := hv.c2
      have c3 := hv.c3
      obtain ⟨x0, z0, x1, z1, x2, z2, x3, z3⟩ := Blk.z4 HX.out.1
      have hlI : (k : Int) < (vs.length : Nat) := by omega
      have HLT := Lib.hid hlt
      clear hv hc hb hvv
      have HXX := Lib.hid HX.out
      have HTAKE := Lib.hid (fun (he : extremeV most (vs.take (k + 1)) = v) (W' : World) (hW' : W' = ((((wr.setCell ⟨w.heap.size + 1, 0, none⟩ (.int .i64 v.k)).setCell ⟨w.heap.size + 1, 1, none⟩ (.int .i64 v.n)).setCell ⟨w.heap.size + 1, 2, none⟩ (.string v.s)).setCell ⟨w.heap.size + 1, 3, none⟩ (.slice Ai v.l.length ci))) (ob : Obj) => by
        have hB0w : B0 ≤ w.heap.size := Nat.le_trans HA.out.2.2 HA.out.2.1
        have h2 : Below w.heap.size w W' := hW' ▸ ((((hbr.setCell (p := ⟨w.heap.size + 1, 0, none⟩) (Nat.le_succ _) _).setCell (p := ⟨w.heap.size + 1, 1, none⟩) (Nat.le_succ _) _).setCell (p := ⟨w.heap.size + 1, 2, none⟩) (Nat.le_succ _) _).setCell (p := ⟨w.heap.size + 1, 3, none⟩) (Nat.le_succ _) _)
        have hB9 : Blk W' (w.heap.size + 1) 24 #[.int .i64 v.k, .int .i64 v.n, .string v.s, .slice Ai v.l.length ci] := hW' ▸ ((((HXX.out.1.set_ 0 _).set_ 1 _).set_ 2 _).set_ 3 _)
        have hR9 : Blk W' w.heap.size 24 #[.int .i64 0, .int .i64 0, .string ⟨#[]⟩, .slice none 0 0] := hW' ▸ ((((HXX.out.2.2.2.far (p := ⟨w.heap.size + 1, 0, none⟩) (by simp) _).far (p := ⟨w.heap.size + 1, 1, none⟩) (by simp) _).far (p := ⟨w.heap.size + 1, 2, none⟩) (by simp) _).far (p := ⟨w.heap.size + 1, 3, none⟩) (by simp) _)
        have h5 : VAt (W'.alloc ob) B0 v [.int .i64 v.k, .int .i64 v.n, .string v.s, .slice Ai v.l.length ci] := by
          rw [hW']
          obtain ⟨⟨Av, cv, ev, rv⟩, hv1, hv2⟩ := HVA.out.at_
          have hq : B0 ≤ w.heap.size + 1 := Nat.le_trans hB0w (Nat.le_succ _)
          exact ⟨⟨Av, cv, ev, ((((rv.setCell (p := ⟨w.heap.size + 1, 0, none⟩) hq _).setCell (p := ⟨w.heap.size + 1, 1, none⟩) hq _).setCell (p := ⟨w.heap.size + 1, 2, none⟩) hq _).setCell (p := ⟨w.heap.size + 1, 3, none⟩) hq _).alloc (by rw [← hW']; exact Nat.le_trans hB0w h2.size) _⟩, hv1, hv2⟩
        exact And.intro (Lib.hid (show Blk (W'.alloc ob) (w.heap.size + 1) 24 #[.int .i64 v.k, .int .i64 v.n, .string v.s, .slice Ai v.l.length ci] ∧ VAt (W'.alloc ob) B0 v [.int .i64 v.k, .int .i64 v.n, .string v.s, .slice Ai v.l.length ci] ∧ v = extremeV most (vs.take (k + 1)) ∧ Blk (W'.alloc ob) w.heap.size 24 #[.int .i64 0, .int .i64 0, .string ⟨#[]⟩, .slice none 0 0] from
          ⟨hB9.alloc _, h5, he.symm, hR9.alloc _⟩)) (h2.alloc (o := ob) h2.size))
      have HSTAY := Lib.hid (fun (he : extremeV most (vs.take (k + 1)) = x) (o : Obj) => And.intro (Lib.hid (show Blk (wr.alloc o) (w.heap.size + 1) 24 #[.int .i64 x.k, .int .i64 x.n, .string x.s, .slice Ax x.l.length cx] ∧ VAt (wr.alloc o) B0 x [.int .i64 x.k, .int .i64 x.n, .string x.s, .slice Ax x.l.length cx] ∧ x = extremeV most (vs.take (k + 1)) ∧ Blk (wr.alloc o) w.heap.size 24 #[.int .i64 0, .int .i64 0, .string ⟨#[]⟩, .slice none 0 0] from
          ⟨HXX.out.1.alloc _, HXX.out.2.1.keep (below_a wr o) (Nat.le_trans (Nat.le_trans HA.out.2.2 HA.out.2.1) hbr.size), he.symm, HXX.out.2.2.2.alloc _⟩)) (hbr.alloc (o := o) hbr.size))
      have hlt9 : w.heap.size + 1 < wr.heap.size := HXX.out.1.lt
      clear HXX HX
      by_cases hk0 : k = 0
      · subst hk0
        simp only [Nat.zero_mul, Nat.add_zero] at c0 c1 c2 c3
        have hst : extremeV most (vs.take (0 + 1)) = v := by rw [HST.out, if_pos (.inl rfl)]
        have HT := Lib.hid (fun W' => HTAKE.out hst W')
        clear hst
        go_wp2_with fail
        go_roundw
        case rel => exact ⟨0 + 1, v, Ai, ci, HLT.out, rfl, (HT.out _ rfl _).1, (HT.out _ rfl _).2⟩
        case measure =>
          have := HLT.out
          simp [intOf]
          omega
      · have hkI : ((k : Int) == 0) = false := by simp; omega
        by_cases hbt : betterB most v x = true
        case' pos =>
          have hst : extremeV most (vs.take (k + 1)) = v := by rw [HST.out, if_pos (.inr hbt)]
          have HT := Lib.hid (fun W' => HTAKE.out hst W')
        case' neg =>
          have hst : extremeV most (vs.take (k + 1)) = x := by rw [HST.out, if_neg (fun q => q.elim hk0 hbt)]
          have HT := Lib.hid (fun o => HSTAY.out hst o)
        all_goals
          clear hst
          have HBT := Lib.hid hbt
          cases most
        all_goals
          have hcmp : _ := HBT.out
          simp only [betterB, if_true, if_false, Bool.false_eq_true, decide_eq_true_eq] at hcmp
          clear hbt
          go_wp2_with fail
          go_roundw
          case rel => first
            | exact ⟨k + 1, v, Ai, ci, HLT.out, by go_num, (HT.out _ rfl _).1, (HT.out _ rfl _).2⟩
            | exact ⟨k + 1, x, Ax, cx, HLT.out, by go_num, (HT.out _).1, (HT.out _).2⟩
          case measure =>
            have := HLT.out
            simp [intOf]
            omega
    · have hE : k = vs.length := by omega
      subst hE
      obtain ⟨x0, -, x1, -, x2, -, x3, -⟩ := Blk.z4 HX.out.1
      obtain ⟨r0, s0, r1, s1, r2, s2, r3, s3⟩ := Blk.z4 HX.out.2.2.2
      go_wp2_with fail
      exact end4 Tryz.results78 rfl HX.out.2.2.2 hbr (Nat.le_refl _) (fun W5 hW5 => ⟨⟨_, rfl, _, rfl, by
        have h := (HX.out.2.1.back hbr (Nat.le_trans HA.out.2.2 HA.out.2.1)).keep hW5 (Nat.le_trans HA.out.2.2 HA.out.2.1)
        have e := HX.out.2.2.1
        rw [List.take_length] at e
        rw [← e]; exact h⟩, hW5⟩)
end Go.Proofs.YtpanbeoelbhhgaaGreatDoor
namespace Go.Proofs.YtpanbeoelbhhgaaGreatDoor
open Go.RowKit
attribute [local go_sem ↓] Go.wp_at_zero Go.wp_at_succ
set_option maxHeartbeats 4000000
set_option maxRecDepth 100000
theorem MapIs.get {w : World} {b : Nat} {kv : List (ByteArray × Value)} (h : MapIs w b kv) {t e : TypeId} (ht : Tryz.prog.underlying t = some (.map 9 e)) {z : Value} (hz : (zeroValue e).run Tryz.prog w = .ok z w) {s : ByteArray} (hs : s.size ≤ maxLen) :
    (Instr.lookup t (.map (some b)) (.string s) false).run Tryz.prog w = .ok ((getK kv s).getD z) w := by
  obtain ⟨D, h1, h2, h3⟩ := h.ex
  obtain ⟨v, ps, hrun, hv⟩ := h1.lookup (Maps.string_keyed Tryz.underlying9) ht hz (zd := .held z) (zp := []) rfl (keyS hs)
  rw [hrun]
  have h4 := h3 s (.held z)
  have hv' : (DataW.held v : DataW Value) = D.atKey (.string s.data.toList) (.held z) := by
    unfold R0 at hv
    exact (Prod.mk.inj (Option.some.inj hv)).1
  rw [h4] at hv'
  cases hg : getK kv s with
  | none => rw [hg] at hv'; rw [DataW.held.inj hv']; rfl
  | some u => rw [hg] at hv'; rw [DataW.held.inj hv']; rfl
theorem zeroBound (w : World) : (zeroValue 88).run Tryz.prog w = .ok (.agg #[.string ⟨#[]⟩, .slice none 0 0, .int .i64 0, .int .i64 0, .string ⟨#[]⟩, .slice none 0 0, .bool false]) w := by kernel_rfl
/-- what the map of bounds gives, the cell being known -/
theorem bound_get {S : SceneD} (hS : ScOk S) {w : World} {B : Nat} {kv : List (ByteArray × Value)} (hkv : KvB w B kv S.bounds) {nm : ByteArray} {row : List Int} {d : CellD} (hf : S.cells.find? (fun c => decide (c.nm = nm)) = some d) (hn : noSp nm) (hr : codesOk row) :
    ∃ cs, ((getK kv ⟨(rowKeyL nm.data.toList (row.take d.loops.length)).toArray⟩).getD (.agg #[.string ⟨#[]⟩, .slice none 0 0, .int .i64 0, .int .i64 0, .string ⟨#[]⟩, .slice none 0 0, .bool false])) = .agg cs.toArray ∧ BoundAt w B (findB S.cells S.bounds nm row) cs := by
  have hr2 : codesOk (row.take d.loops.length) := fun n h => hr n (List.mem_of_mem_take h)
  unfold findB
  rw [hf]
  rcases look_bound hS hkv hn hr2 with ⟨h1, h2⟩ | ⟨b, cs, h1, h2, -, h3⟩
  · dsimp only
    rw [h1, h2]
    exact ⟨_, rfl, ⟨none, 0, none, 0, rfl, Reads.none_, Reads.none_⟩, Nat.zero_le _, Nat.zero_le _, Nat.zero_le _, Nat.zero_le _⟩
  · dsimp only
    rw [h1, h3]
    exact ⟨cs, rfl, h2⟩
theorem set7_ex {w w4 : World} {T : TypeId} {g b : Nat} {c0 c1 c2 c3 c4 c5 c6 : Value} (B : Blk w4 g T #[c0, c1, c2, c3, c4, c5, c6]) (h : Below b w w4) (hg : b ≤ g) (a0 a1 a2 a3 a4 a5 a6 : Value) : ∃ W, W = ((((((w4.setCell ⟨g, 0, none⟩ a0).setCell ⟨g, 1, none⟩ a1).setCell ⟨g, 2, none⟩ a2).setCell ⟨g, 3, none⟩ a3).setCell ⟨g, 4, none⟩ a4).setCell ⟨g, 5, none⟩ a5).setCell ⟨g, 6, none⟩ a6 ∧ Blk W g T #[a0, a1, a2, a3, a4, a5, a6] ∧ Below b w W :=
  ⟨_, rfl, (((((((B.set_ 0 _).set_ 1 _).set_ 2 _).set_ 3 _).set_ 4 _).set_ 5 _).set_ 6 _), (((((((h.setCell (p := ⟨g, 0, none⟩) hg _).setCell (p := ⟨g, 1, none⟩) hg _).setCell (p := ⟨g, 2, none⟩) hg _).setCell (p := ⟨g, 3, none⟩) hg _).setCell (p := ⟨g, 4, none⟩) hg _).setCell (p := ⟨g, 5, none⟩) hg _).setCell (p := ⟨g, 6, none⟩) hg _)⟩
theorem Blk.z7 {w : World} {g : Nat} {T : TypeId} {a0 a1 a2 a3 a4 a5 a6 : Value} (h : Blk w g T #[a0, a1, a2, a3, a4, a5, a6]) : w.cell? ⟨g, 0, none⟩ = some a0 ∧ w.frozen? ⟨g, 0, none⟩ = false ∧ w.cell? ⟨g, 1, none⟩ = some a1 ∧ w.frozen? ⟨g, 1, none⟩ = false ∧ w.cell? ⟨g, 2, none⟩ = some a2 ∧ w.frozen? ⟨g, 2, none⟩ = false ∧ w.cell? ⟨g, 3, none⟩ = some a3 ∧ w.frozen? ⟨g, 3, none⟩ = false ∧ w.cell? ⟨g, 4, none⟩ = some a4 ∧ w.frozen? ⟨g, 4, none⟩ = false ∧ w.cell? ⟨g, 5, none⟩ = some a5 ∧ w.frozen? ⟨g, 5, none⟩ = false ∧ w.cell? ⟨g, 6, none⟩ = some a6 ∧ w.frozen? ⟨g, 6, none⟩ = false := ⟨h.cell 0, h.frozen 0, h.cell 1, h.frozen 1, h.cell 2, h.frozen 2, h.cell 3, h.frozen 3, h.cell 4, h.frozen 4, h.cell 5, h.frozen 5, h.cell 6, h.frozen 6⟩
/-- a bound stored into the result's cells, and handed back -/
theorem end7 {fn : Func} {s : Tmp} {tmps : Array Value} {w w4 : World} {g b : Nat} {c0 c1 c2 c3 c4 c5 c6 a0 a1 a2 a3 a4 a5 a6 : Value} {Q : Ending → World → Prop} (hr : fn.results = #[.cell s 88]) (hs : tmps[s]?.getD undef = .pointer (some ⟨g, 0, none⟩)) (B : Blk w4 g 88 #[c0, c1, c2, c3, c4, c5, c6]) (hb : Below b w w4) (hg : b ≤ g) (h : ∀ W, Below b w W → Q (.returned (.agg #[a0, a1, a2, a3, a4, a5, a6])) W) :
    bodyPost Tryz.prog fn Q Exit.ret { tmps := tmps, defers := [] } (((((((w4.setCell ⟨g, 0, none⟩ a0).setCell ⟨g, 1, none⟩ a1).setCell ⟨g, 2, none⟩ a2).setCell ⟨g, 3, none⟩ a3).setCell ⟨g, 4, none⟩ a4).setCell ⟨g, 5, none⟩ a5).setCell ⟨g, 6, none⟩ a6) := by
  obtain ⟨W, hW, B9, hb9⟩ := set7_ex B hb hg a0 a1 a2 a3 a4 a5 a6
  rw [← hW]
  have q0 : W.cell? ⟨g, 0, none⟩ = some a0 := B9.cell 0
  have q1 : W.cell? ⟨g, 1, none⟩ = some a1 := B9.cell 1
  have q2 : W.cell? ⟨g, 2, none⟩ = some a2 := B9.cell 2
  have q3 : W.cell? ⟨g, 3, none⟩ = some a3 := B9.cell 3
  have q4 : W.cell? ⟨g, 4, none⟩ = some a4 := B9.cell 4
  have q5 : W.cell? ⟨g, 5, none⟩ = some a5 := B9.cell 5
  have q6 : W.cell? ⟨g, 6, none⟩ = some a6 := B9.cell 6
  exact bodyPost_ret (v := .agg #[a0, a1, a2, a3, a4, a5, a6]) (by simp [results, hr, go_sem, hs, q0, q1, q2, q3, q4, q5, q6]) rfl (h W hb9)
theorem bound_any {S : SceneD} (hS : ScOk S) (kv1 kv2 kv3 kv4 : List (ByteArray × Value)) (gs m1 m2 m3 m4 B Bq : Nat) (nm : ByteArray) (row : List Int) (R : Option Addr) (c : Nat) (d : CellD) (w : World) (hw : SiAt w B gs m1 m2 m3 m4 kv1 kv2 kv3 kv4 S.cells S.loops S.bounds S.rows) (hf : S.cells.find? (fun c => decide (c.nm = nm)) = some d) (hn : noSp nm) (hnl : nm.size ≤ 1000000) (hr : codesOk row) (hrow : Reads w Bq 1 R row.length (numV .i64 row)) (hBq : Bq ≤ w.heap.size) (hc : row.length ≤ c) (hd : d.loops.length ≤ row.length) (hdm : d.loops.length ≤ 1048576) (hrl : row.length ≤ 1048577) (htab : Tab10 w) :
    Calls Tryz.prog 46 #[.pointer (some ⟨gs, 0, none⟩), .string nm, .slice R row.length c] w fun e w' => (∃ cs, e = .returned (.agg cs.toArray) ∧ BoundAt w' B (findB S.cells S.bounds nm row) cs) ∧ Below w.heap.size w w' := by
  have hB := hw.ne.2.2.2.2.2.2.2.2.2
  have HSI := Lib.hid hw
  have hgs := hw.blk.lt
  obtain ⟨kcs, hkc, hkb⟩ := bound_get hS hw.kb hf hn hr
  obtain ⟨bd, hbd⟩ : ∃ b, findB S.cells S.bounds nm row = b := ⟨_, rfl⟩
  rw [hbd] at hkb ⊢
  clear hbd
  have HKB := Lib.hid hkb
  obtain ⟨⟨E1, e1, E2, e2, rfl, -, -⟩, -, -, -, -⟩ := hkb
  have HT := Lib.hid htab
  have hnm : nm.size ≤ maxLen := by unfold maxLen; omega
  -- the cell
  obtain ⟨dc, ds, hg, hda, hdl, hf2⟩ : ∃ dc ds, getK kv1 nm = some (.agg ds.toArray) ∧ CellAt w B dc ds ∧ dc ∈ S.cells ∧ S.cells.find? (fun c => decide (c.nm = nm)) = some dc := by
    rcases cellF_map hw.ty.cc nm with ⟨-, h⟩ | h
    · rw [hf] at h; cases h
    · exact h
  obtain rfl : dc = d := by rw [hf] at hf2; exact (Option.some.inj hf2).symm
  obtain ⟨⟨A1, c1, rfl, hdx, hdc⟩, hd1, hd2, hd3⟩ := hda
  obtain ⟨key, hkey⟩ : ∃ k : ByteArray, ⟨(rowKeyL nm.data.toList (row.take dc.loops.length)).toArray⟩ = k := ⟨_, rfl⟩
  rw [hkey] at hkc
  have hkz : key.size ≤ maxLen := by
    have h := rowKeyL_len nm.data.toList (row.take dc.loops.length) (fun n h => hr n (List.mem_of_mem_take h))
    rw [List.length_take] at h
    have e : key.size = (rowKeyL nm.data.toList (row.take dc.loops.length)).length := by rw [← hkey]; show ((rowKeyL nm.data.toList (row.take dc.loops.length)).toArray).size = _; simp
    have e2 : nm.data.toList.length = nm.size := by simp
    unfold maxLen; omega
  obtain ⟨nl, hnl2⟩ : ∃ n, dc.loops.length = n := ⟨_, rfl⟩
  rw [hnl2] at hd hdm
  have htk : (row.take nl).length = nl := by rw [List.length_take]; omega
  have HKEY := Lib.hid (fun W' (hb : Below w.heap.size w W') => by
    have h := rowKey_any nm (row.take nl) R c Bq W' hnl (by rw [htk]; omega) (fun n h => hr n (List.mem_of_mem_take h)) (by
      rw [htk]
      have h := hrow.below (hb.mono hBq)
      refine ⟨by unfold numV; rw [List.length_map, Nat.mul_one]; exact htk, fun h0 => ?_⟩
      obtain ⟨ad, e, hlt, hcell⟩ := h.2 (by omega)
      refine ⟨ad, e, hlt, fun j u hu => hcell j u ?_⟩
      unfold numV at hu ⊢
      rw [List.map_take, List.getElem?_take] at hu
      split at hu
      · exact hu
      · cases hu) (Nat.le_trans hBq hb.size) (HT.out.below hb)
    rw [htk, ← hnl2, hkey] at h
    rw [hnl2] at h
    exact h)
  have HL3 := Lib.hid (fun W' (hb : Below w.heap.size w W') => by
    have h := (HSI.out.m3m.below hb HSI.out.m3m.lt).get Tryz.underlying58 (zeroBound W') hkz
    rw [hkc] at h
    exact h)
  have hl1 : ∀ W' : World, Below w.heap.size w W' → (Instr.lookup 54 (.map (some m1)) (.string nm) false).run Tryz.prog W' = .ok (.agg #[.string dc.nm, .int .i64 dc.kind, .slice A1 nl c1]) W' := fun W' hb => by
    have h := (HSI.out.ty.c.below hb HSI.out.ty.c.lt).get Tryz.underlying54 (zeroCell W') hnm
    rw [hg, hnl2] at h
    exact h
  obtain ⟨W, hW⟩ : ∃ W, W = w.alloc (.cells #[.string ⟨#[]⟩, .slice none 0 0, .int .i64 0, .int .i64 0, .string ⟨#[]⟩, .slice none 0 0, .bool false] 88 (0, 0)) := ⟨_, rfl⟩
  have hbw : Below w.heap.size w W := hW ▸ below_a w _
  have BR : Blk W w.heap.size 88 #[.string ⟨#[]⟩, .slice none 0 0, .int .i64 0, .int .i64 0, .string ⟨#[]⟩, .slice none 0 0, .bool false] := hW ▸ Blk.new w _ _
  have B1 := HSI.out.blk.below hbw hgs
  have g0 : W.cell? ⟨gs, 0, none⟩ = some (.map (some m1)) := B1.cell 0
  have hl10 := hl1 W hbw
  obtain ⟨n, hn1⟩ : ∃ n, row.length = n := ⟨_, rfl⟩
  rw [hn1] at hd hc hrl ⊢
  have hmn : min (n : Int) (nl : Int) = nl := by omega
  have hnlI : (nl : Int) ≤ c := by omega
  clear hrow hw htab hf hdx hdc hd1 hd2 hd3 hl1 hr hg hdl hf2 hkc
  go_enter Tryz.func46, Tryz.ntmps46
  go_upto_region 1 with (fail)
  rw [← hW]
  clear hW
  go_upto_region 2 with (fail)
  obtain ⟨W2, hW2⟩ : ∃ W2, W2 = W.alloc (.cells #[.string dc.nm, .int .i64 dc.kind, .slice A1 nl c1] 101 (0, 0)) := ⟨_, rfl⟩
  have hb2 : Below W.heap.size W W2 := hW2 ▸ below_a W _
  have hbw2 := hbw.trans (hb2.mono hbw.size)
  have B2 : Blk W2 W.heap.size 101 #[.string dc.nm, .int .i64 dc.kind, .slice A1 nl c1] := hW2 ▸ Blk.new W _ _
  rw [← hW2]
  clear hW2
  have f1 : W2.cell? ⟨gs, 2, none⟩ = some (.map (some m3)) := (B1.below hb2 B1.lt).cell 2
  have f2 : W2.cell? ⟨W.heap.size, 2, none⟩ = some (.slice A1 nl c1) := B2.cell 2
  have BR := BR.below hb2 BR.lt
  have HBR := Lib.hid BR
  have hbr := Below.refl W2.heap.size W2
  have HKQ := Lib.hid (fun w' (hq : Below W2.heap.size W2 w') => And.intro (Below.cell_of hq f1) (And.intro (Below.cell_of hq f2) hq))
  have HK1 := Lib.hid (show ∀ w', Below W2.heap.size W2 w' → Calls Tryz.prog 35 #[.string nm, .slice R nl c] w' fun en w'' => en = .returned (.string key) ∧ Below W2.heap.size W2 w'' from fun w' hb =>
    (HKEY.out w' (hbw2.trans (hb.mono hbw2.size))).mono fun _ _ ⟨he, hk⟩ => ⟨he, hb.trans (hk.mono hb.size)⟩)
  clear hl10 g0 B1 B2
  refine wp_region_any (by kernel_rfl) ?_
  change wpAny _ _ _ _ _ _ _ (World.drew _)
  refine wpAny_take (i := 0) (v := ?v4) rfl (by kernel_rfl) (by kernel_rfl) (by kernel_rfl) (fun _ _ _ h => h) (Or.inl ⟨by rfl, ?y4⟩) ?r4
  case y4 =>
    intro w
    go_simp
    all_goals with_reducible rfl
  refine wpAny_take (i := 1) (v := ?v5) rfl (by kernel_rfl) (by kernel_rfl) (by kernel_rfl) (fun _ _ _ h => h) (Or.inl ⟨by rfl, ?y5⟩) ?r5
  case y5 =>
    intro w
    go_simp
    all_goals with_reducible rfl
  refine wpAny_take (i := 2) (v := ?v6) rfl (by kernel_rfl) (by kernel_rfl) (by kernel_rfl) (fun _ _ _ h => h) (Or.inl ⟨by rfl, ?y6⟩) ?r6
  case y6 =>
    intro w
    go_simp
    all_goals with_reducible rfl
  refine wpAny_take (i := 4) (v := ?v7) rfl (by kernel_rfl) (by kernel_rfl) (by kernel_rfl) (fun _ _ _ h => h) (Or.inl ⟨by rfl, ?y7⟩) ?r7
  case y7 =>
    intro w
    go_simp
    all_goals with_reducible rfl
  refine wpAny_take (i := 5) (v := ?v8) rfl (by kernel_rfl) (by kernel_rfl) (by kernel_rfl) (fun _ _ _ h => h) (Or.inl ⟨by rfl, ?y8⟩) ?r8
  case y8 =>
    intro w
    go_simp
    all_goals with_reducible rfl
  refine wpAny_take (i := 6) (v := ?v9) rfl (by kernel_rfl) (by kernel_rfl) (by kernel_rfl) (fun _ _ _ h => h) (Or.inl ⟨by rfl, ?y9⟩) ?r9
  case y9 =>
    intro w
    go_simp
    all_goals with_reducible rfl
  refine wpAny_take (i := 7) (v := ?v10) rfl (by kernel_rfl) (by kernel_rfl) (by kernel_rfl) (fun _ _ _ h => h) (Or.inl ⟨by rfl, ?y10⟩) ?r10
  case y10 =>
    intro w
    go_simp
    all_goals with_reducible rfl
  refine wpAny_take (i := 8) (v := ?v11) rfl (by kernel_rfl) (by kernel_rfl) (by kernel_rfl) (fun _ _ _ h => h) (Or.inl ⟨by rfl, ?y11⟩) ?r11
  case y11 =>
    intro w
    go_simp
    all_goals with_reducible rfl
  refine wpAny_ready (rs := [3, 9]) (by kernel_rfl) (by simp) ?_
  refine AllReady.cons rfl (fun K hK => ?_) ?_
  go_simp
  refine hK _ _ ?_
  clear hK K
  refine wpAny_ready (rs := [9]) (by kernel_rfl) (by simp) ?_
  refine AllReady.cons rfl (fun K hK => ?_) AllReady.nil
  go_simp
  refine hK _ _ ?_
  clear hK K
  refine wpAny_take (i := 10) (v := ?v12) rfl (by kernel_rfl) (by kernel_rfl) (by kernel_rfl) (fun _ _ _ h => h) (Or.inl ⟨by rfl, ?y12⟩) ?r12
  case y12 =>
    intro w
    go_simp
    all_goals with_reducible rfl
  refine wpAny_take (i := 11) (v := ?v13) rfl (by kernel_rfl) (by kernel_rfl) (by kernel_rfl) (fun _ _ _ h => h) (Or.inl ⟨by rfl, ?y13⟩) ?r13
  case y13 =>
    intro w
    go_simp
    all_goals with_reducible rfl
  refine wpAny_take (i := 12) (v := ?v14) rfl (by kernel_rfl) (by kernel_rfl) (by kernel_rfl) (fun _ _ _ h => h) (Or.inl ⟨by rfl, ?y14⟩) ?r14
  case y14 =>
    intro w
    go_simp
    all_goals with_reducible rfl
  refine wpAny_ready (rs := [13]) (by kernel_rfl) (by simp) ?_
  refine AllReady.cons rfl (fun K hK => ?_) AllReady.nil
  go_simp
  go_wp2_with fail
  refine (HK1.out _ hbr.drew).mono ?_
  rintro e w3 ⟨rfl, hb3⟩
  have hl3 := HL3.out w3 (hbw2.trans (hb3.mono hbw2.size))
  have f1 := Below.cell_of hb3 f1
  obtain ⟨r0, s0, r1, s1, r2, s2, r3, s3, r4, s4, r5, s5, r6, s6⟩ := (HBR.out.below hb3 HBR.out.lt).z7
  go_wp2_with fail
  rotate_left
  refine AllReady.cons rfl (fun K hK => ?_) AllReady.nil
  go_simp
  refine hK _ _ ?_
  clear hK K
  refine wpAny_take (i := 10) (v := ?v15) rfl (by kernel_rfl) (by kernel_rfl) (by kernel_rfl) (fun _ _ _ h => h) (Or.inl ⟨by rfl, ?y15⟩) ?r15
  case y15 =>
    intro w
    go_simp
    all_goals with_reducible rfl
  refine wpAny_take (i := 11) (v := ?v16) rfl (by kernel_rfl) (by kernel_rfl) (by kernel_rfl) (fun _ _ _ h => h) (Or.inl ⟨by rfl, ?y16⟩) ?r16
  case y16 =>
    intro w
    go_simp
    all_goals with_reducible rfl
  refine wpAny_take (i := 12) (v := ?v17) rfl (by kernel_rfl) (by kernel_rfl) (by kernel_rfl) (fun _ _ _ h => h) (Or.inl ⟨by rfl, ?y17⟩) ?r17
  case y17 =>
    intro w
    go_simp
    all_goals with_reducible rfl
  refine wpAny_ready (rs := [3, 13]) (by kernel_rfl) (by simp) ?_
  refine AllReady.cons rfl (fun K hK => ?_) ?_
  go_simp
  refine hK _ _ ?_
  clear hK K
  refine wpAny_ready (rs := [13]) (by kernel_rfl) (by simp) ?_
  refine AllReady.cons rfl (fun K hK => ?_) AllReady.nil
  go_simp
  go_wp2_with fail
  refine (HK1.out _ hbr.drew).mono ?_
  rintro e w3 ⟨rfl, hb3⟩
  have hl3 := HL3.out w3 (hbw2.trans (hb3.mono hbw2.size))
  have f1 := Below.cell_of hb3 f1
  obtain ⟨r0, s0, r1, s1, r2, s2, r3, s3, r4, s4, r5, s5, r6, s6⟩ := (HBR.out.below hb3 HBR.out.lt).z7
  go_wp2_with fail
  rotate_left
  refine AllReady.cons rfl (fun K hK => ?_) AllReady.nil
  go_simp
  go_wp2_with fail
  refine (HK1.out _ hbr.drew).mono ?_
  rintro e w3 ⟨rfl, hb3⟩
  have hl3 := HL3.out w3 (hbw2.trans (hb3.mono hbw2.size))
  have f1 := Below.cell_of hb3 f1
  obtain ⟨r0, s0, r1, s1, r2, s2, r3, s3, r4, s4, r5, s5, r6, s6⟩ := (HBR.out.below hb3 HBR.out.lt).z7
  go_wp2_with fail
  refine wpAny_ready (rs := [3]) (by kernel_rfl) (by simp) ?_
  refine AllReady.cons rfl (fun K hK => ?_) AllReady.nil
  go_simp
  refine hK _ _ ?_
  clear hK K
  rotate_left
  all_goals
    refine wpAny_ready (rs := [14]) (by kernel_rfl) (by simp) ?_
    refine AllReady.cons rfl (fun K hK => ?_) AllReady.nil
    go_simp
    refine hK _ _ ?_
    clear hK K
    refine wpAny_ready (rs := [15]) (by kernel_rfl) (by simp) ?_
    refine AllReady.cons rfl (fun K hK => ?_) AllReady.nil
    go_simp
    go_wp2_with fail
    refine wpAny_done (by kernel_rfl) ?_ _
    go_wp2_with fail
    exact end7 Tryz.results46 rfl (HBR.out.below hb3 HBR.out.lt) (hbw2.trans (hb3.mono hbw2.size)) (Nat.le_refl _) (fun W5 hW5 => ⟨⟨_, rfl, HKB.out.keep (hW5.mono hB)⟩, hW5⟩)
end Go.Proofs.YtpanbeoelbhhgaaGreatDoor
namespace Go.Proofs.YtpanbeoelbhhgaaGreatDoor
open Go.RowKit
attribute [local go_sem ↓] Go.wp_at_zero Go.wp_at_succ
set_option maxHeartbeats 4000000
set_option maxRecDepth 100000
theorem take4 {l : List Value} {a : Nat} {x0 x1 x2 x3 : Value} (h0 : l[a]? = some x0) (h1 : l[a + 1]? = some x1) (h2 : l[a + 2]? = some x2) (h3 : l[a + 3]? = some x3) : (l.drop a).take 4 = [x0, x1, x2, x3] := by
  apply List.ext_getElem?
  intro j
  rw [List.getElem?_take]
  split
  · rw [List.getElem?_drop]
    rcases (show j = 0 ∨ j = 1 ∨ j = 2 ∨ j = 3 by omega) with rfl | rfl | rfl | rfl
    · exact h0
    · exact h1
    · exact h2
    · exact h3
  · symm
    exact List.getElem?_eq_none (by simp; omega)
/-- an own row of values, their sets below B0 -/
def OV (w : World) (B0 B : Nat) (v : Value) (vs : List Val) : Prop :=
  (v = .slice none 0 0 ∧ vs = []) ∨ ∃ g cap cur, v = .slice (some ⟨g, 0, none⟩) vs.length cap ∧ B ≤ g ∧ Blk w g 24 cur ∧ vs.length ≤ cap ∧ cap ≤ maxLen ∧ cur.size = cap * 4 ∧ ∀ i (hi : i < vs.length), ∃ A c, ValCells w B0 g (i * 4) vs[i] A c
theorem OV.nil {w : World} {B0 B : Nat} : OV w B0 B (.slice none 0 0) [] := .inl ⟨rfl, rfl⟩
theorem OV.form {w : World} {B0 B : Nat} {v : Value} {vs : List Val} (h : OV w B0 B v vs) : ∃ A c, v = .slice A vs.length c := by
  rcases h with ⟨rfl, rfl⟩ | ⟨g, cap, cur, e, -⟩
  · exact ⟨none, 0, rfl⟩
  · exact ⟨_, _, e⟩
theorem OV.args {w : World} {B0 B : Nat} {A : Option Addr} {c n : Nat} {vs : List Val} (h : OV w B0 B (.slice A n c) vs) : ArgsAt B0 w w.heap.size A vs := by
  rcases h with ⟨e, rfl⟩ | ⟨g, cap, cur, e, hg, hb, h1, h2, h3, hv⟩
  · exact ⟨Nat.zero_le _, [], ⟨rfl, fun h => absurd h (Nat.lt_irrefl _)⟩, fun i hi => absurd hi (Nat.not_lt_zero _)⟩
  · injection e with e1 e2 e3
    subst e1
    refine ⟨Nat.le_trans h1 h2, cur.toList.take (vs.length * 4), ⟨by rw [List.length_take, Array.length_toList (xs := cur)]; omega, fun _ => ⟨_, rfl, hb.lt, fun j u hu => ?_⟩⟩, fun i hi => ?_⟩
    · rw [addr_at, Nat.zero_add, hb.cell j]
      rw [List.getElem?_take] at hu
      split at hu
      · rw [← Array.getElem?_toList]; exact hu
      · cases hu
    · obtain ⟨Ai, ci, hc⟩ := hv i hi
      have hq : ∀ j u, j < 4 → w.cell? ⟨g, i * 4 + j, none⟩ = some u → (cur.toList.take (vs.length * 4))[i * 4 + j]? = some u := fun j u hj hu => by
        rw [hb.cell, ← Array.getElem?_toList] at hu
        rw [List.getElem?_take, if_pos (by omega)]
        exact hu
      rw [take4 (a := i * 4) (hq 0 _ (by decide) hc.c0) (hq 1 _ (by decide) hc.c1) (hq 2 _ (by decide) hc.c2) (hq 3 _ (by decide) hc.c3)]
      exact hc.at_
theorem OV.lt {w : World} {B0 B : Nat} {A : Addr} {c n : Nat} {vs : List Val} (h : OV w B0 B (.slice (some A) n c) vs) : B ≤ A.block ∧ A.block < w.heap.size := by
  rcases h with ⟨e, -⟩ | ⟨g, cap, cur, e, hg, hb, -⟩
  · cases e
  · injection e with e
    injection e with e
    subst e
    exact ⟨hg, hb.lt⟩
theorem OV.keep {w w' : World} {B0 B C : Nat} {v : Value} {vs : List Val} (h : OV w B0 B v vs) (hb : Below C w w') (hB0 : B0 ≤ C) (hC : ∀ a n c, v = .slice (some a) n c → a.block < C) : OV w' B0 B v vs := by
  rcases h with h | ⟨g, cap, cur, e, hg, hk, h1, h2, h3, hv⟩
  · exact .inl h
  · have hlt := hC _ _ _ e
    exact .inr ⟨g, cap, cur, e, hg, hk.below hb hlt, h1, h2, h3, fun i hi => by
      obtain ⟨A, c, hc⟩ := hv i hi
      exact ⟨A, c, hc.keep hb hB0 hlt⟩⟩
theorem OV.below {w w' : World} {B0 B : Nat} {v : Value} {vs : List Val} (h : OV w B0 B v vs) (hb : Below w.heap.size w w') (hB0 : B0 ≤ w.heap.size) : OV w' B0 B v vs :=
  h.keep hb hB0 fun a n c e => by subst e; exact h.lt.2
/-- what an append needs, and what it gives -/
theorem OV.snoc {w : World} {B0 B : Nat} {v : Value} {vs : List Val} (h : OV w B0 B v vs) : ∃ xs, w.ownsRow B 24 4 v vs.length xs ∧ ∀ (w' : World) (v' : Value) (u : Val) (A : Option Addr) (c : Nat), w'.ownsRow B 24 4 v' (vs.length + 1) (xs ++ [.int .i64 u.k, .int .i64 u.n, .string u.s, .slice A u.l.length c]) → Below B0 w w' → Reads w' B0 1 A u.l.length (numV .i64 u.l) → u.s.size ≤ maxLen → u.l.length ≤ maxLen → OV w' B0 B v' (vs ++ [u]) := by
  have key : ∀ (w' : World) (xs : List Value) (v' : Value) (u : Val) (A : Option Addr) (c : Nat), xs.length = vs.length * 4 → (∀ i (hi : i < vs.length), ∃ A c, xs[i * 4]? = some (.int .i64 vs[i].k) ∧ xs[i * 4 + 1]? = some (.int .i64 vs[i].n) ∧ xs[i * 4 + 2]? = some (.string vs[i].s) ∧ xs[i * 4 + 3]? = some (.slice A vs[i].l.length c) ∧ Reads w' B0 1 A vs[i].l.length (numV .i64 vs[i].l) ∧ vs[i].s.size ≤ maxLen ∧ vs[i].l.length ≤ maxLen) → w'.ownsRow B 24 4 v' (vs.length + 1) (xs ++ [.int .i64 u.k, .int .i64 u.n, .string u.s, .slice A u.l.length c]) → Reads w' B0 1 A u.l.length (numV .i64 u.l) → u.s.size ≤ maxLen → u.l.length ≤ maxLen → OV w' B0 B v' (vs ++ [u]) := fun w' xs v' u A c hxl hx ho hr hs hl => by
    obtain ⟨-, ⟨-, h0⟩ | ⟨g, cap, cur, e, hg, hk, h1, h2, h3, h4⟩⟩ := ho
    · omega
    · refine .inr ⟨g, cap, cur, by rw [List.length_append]; exact e, hg, hk, by rw [List.length_append]; exact h1, h2, h3, fun i hi => ?_⟩
      have hc : ∀ (o : Nat) (z : Value), (xs ++ [.int .i64 u.k, .int .i64 u.n, .string u.s, .slice A u.l.length c])[o]? = some z → w'.cell? ⟨g, o, none⟩ = some z := fun o z hz => by
        rw [← h4, List.getElem?_take] at hz
        split at hz
        · rw [Blk.cell hk, ← Array.getElem?_toList]; exact hz
        · cases hz
      by_cases hi2 : i < vs.length
      · obtain ⟨A', c', x0, x1, x2, x3, xr, y1, y2⟩ := hx i hi2
        rw [List.getElem_append_left hi2]
        have hcc : ∀ (o : Nat) (z : Value), o < vs.length * 4 → xs[o]? = some z → w'.cell? ⟨g, o, none⟩ = some z := fun o z ho hz => hc o z (by rw [List.getElem?_append_left (by omega)]; exact hz)
        exact ⟨A', c', hcc _ _ (by omega) x0, hcc _ _ (by omega) x1, hcc _ _ (by omega) x2, hcc _ _ (by omega) x3, xr, y1, y2⟩
      · have hie : i = vs.length := by simp at hi; omega
        subst hie
        rw [List.getElem_append_right (Nat.le_refl _)]
        have hcc : ∀ (j : Nat) (z : Value), ([.int .i64 u.k, .int .i64 u.n, .string u.s, .slice A u.l.length c] : List Value)[j]? = some z → w'.cell? ⟨g, vs.length * 4 + j, none⟩ = some z := fun j z hz => hc _ z (by rw [List.getElem?_append_right (by omega), hxl, Nat.add_sub_cancel_left]; exact hz)
        simp only [Nat.sub_self, List.getElem_cons_zero]
        exact ⟨A, c, hcc 0 _ rfl, hcc 1 _ rfl, hcc 2 _ rfl, hcc 3 _ rfl, hr, hs, hl⟩
  rcases h with ⟨rfl, rfl⟩ | ⟨g, cap, cur, e, hg, hk, h1, h2, h3, hv⟩
  · exact ⟨[], World.ownsRow_nil _ _ _ _, fun w' v' u A c ho _ hr hs hl => key w' [] v' u A c rfl (fun i hi => absurd hi (Nat.not_lt_zero _)) ho hr hs hl⟩
  · have hlen : (cur.toList.take (vs.length * 4)).length = vs.length * 4 := by rw [List.length_take, Array.length_toList (xs := cur)]; omega
    refine ⟨cur.toList.take (vs.length * 4), ⟨hlen, .inr ⟨g, cap, cur, e, hg, hk, h1, h2, h3, rfl⟩⟩, fun w' v' u A c ho hb hr hs hl => key w' _ v' u A c hlen (fun i hi => ?_) ho hr hs hl⟩
    obtain ⟨A', c', hc⟩ := hv i hi
    have hq : ∀ j u, j < 4 → w.cell? ⟨g, i * 4 + j, none⟩ = some u → (cur.toList.take (vs.length * 4))[i * 4 + j]? = some u := fun j u hj hu => by
      rw [hk.cell, ← Array.getElem?_toList] at hu
      rw [List.getElem?_take, if_pos (by omega)]
      exact hu
    exact ⟨A', c', hq 0 _ (by decide) hc.c0, hq 1 _ (by decide) hc.c1, hq 2 _ (by decide) hc.c2, hq 3 _ (by decide) hc.c3, hc.r.below hb, hc.h1, hc.h2⟩
/-- a value stored into a row -/
theorem put4 {w : World} {g : Nat} {T : TypeId} {cur : Array Value} (h : Blk w g T cur) (i : Nat) (a0 a1 a2 a3 : Value) (hi : i * 4 + 3 < cur.size) : ∃ W cur', W = (((w.setCell ⟨g, i * 4, none⟩ a0).setCell ⟨g, i * 4 + 1, none⟩ a1).setCell ⟨g, i * 4 + 2, none⟩ a2).setCell ⟨g, i * 4 + 3, none⟩ a3 ∧ Blk W g T cur' ∧ cur'.size = cur.size ∧ W.cell? ⟨g, i * 4, none⟩ = some a0 ∧ W.cell? ⟨g, i * 4 + 1, none⟩ = some a1 ∧ W.cell? ⟨g, i * 4 + 2, none⟩ = some a2 ∧ W.cell? ⟨g, i * 4 + 3, none⟩ = some a3 ∧ (∀ o, o < i * 4 ∨ i * 4 + 4 ≤ o → W.cell? ⟨g, o, none⟩ = w.cell? ⟨g, o, none⟩) ∧ (∀ B, B ≤ g → Below B w W) := by
  have hb := ((((h.set_ (i * 4) a0).set_ (i * 4 + 1) a1).set_ (i * 4 + 2) a2).set_ (i * 4 + 3) a3)
  refine ⟨_, _, rfl, hb, by simp, ?_, ?_, ?_, ?_, fun o ho => ?_, fun B hB => ((((Below.refl B w).setCell (p := ⟨g, i * 4, none⟩) hB a0).setCell (p := ⟨g, i * 4 + 1, none⟩) hB a1).setCell (p := ⟨g, i * 4 + 2, none⟩) hB a2).setCell (p := ⟨g, i * 4 + 3, none⟩) hB a3⟩
  · rw [hb.cell]; simp [Array.getElem?_setIfInBounds]; omega
  · rw [hb.cell]; simp [Array.getElem?_setIfInBounds]; omega
  · rw [hb.cell]; simp [Array.getElem?_setIfInBounds]; omega
  · rw [hb.cell]; simp [Array.getElem?_setIfInBounds]; omega
  · rw [hb.cell, h.cell]
    rw [Array.getElem?_setIfInBounds_ne (by omega), Array.getElem?_setIfInBounds_ne (by omega), Array.getElem?_setIfInBounds_ne (by omega), Array.getElem?_setIfInBounds_ne (by omega)]
theorem blk_setCells {g : Nat} {T : TypeId} : ∀ (vs : List Value) (o : Nat) (w : World) (cur : Array Value), Blk w g T cur → ∃ cur', Blk (w.setCells g o vs) g T cur' ∧ cur'.size = cur.size
  | [], _, _, cur, h => ⟨cur, h, rfl⟩
  | v :: r, o, w, cur, h => by
    obtain ⟨c', h1, h2⟩ := blk_setCells r (o + 1) _ _ (h.set_ o v)
    exact ⟨c', h1, by rw [h2]; simp⟩
theorem below_setCells {B g : Nat} (hB : B ≤ g) : ∀ (vs : List Value) (o : Nat) (w : World), Below B w (w.setCells g o vs)
  | [], _, w => Below.refl B w
  | v :: r, o, w => ((Below.refl B w).setCell (p := ⟨g, o, none⟩) hB v).trans (below_setCells hB r (o + 1) _)
/-- clear: the cells from i on are lost, the others stay -/
theorem clear4 {w : World} {g : Nat} {cur : Array Value} (h : Blk w g 24 cur) (i n c : Nat) (hn : 0 < n) (hi : i * 4 + n * 4 ≤ cur.size) : ∃ W cur', (∀ ty, (Builtin.clear_ #[113] ty #[.slice (some ⟨g, i * 4, none⟩) n c]).run Tryz.prog w = .ok (.tuple #[]) W) ∧ Blk W g 24 cur' ∧ cur'.size = cur.size ∧ (∀ o, o < i * 4 → W.cell? ⟨g, o, none⟩ = w.cell? ⟨g, o, none⟩) ∧ (∀ B, B ≤ g → Below B w W) := by
  obtain ⟨L, hL, hLl, hLo⟩ : ∃ L : List Value, (Builtin.zeroCells #[.int .i64 0, .int .i64 0, .string ⟨#[]⟩, .slice none 0 0] n).toList = L ∧ L.length = n * 4 ∧ ∀ u ∈ L, u.oneCell' = true := by
    refine ⟨_, rfl, by simp [Builtin.zeroCells], fun u hu => ?_⟩
    simp only [Builtin.zeroCells, Array.toList_map, List.mem_map] at hu
    obtain ⟨k, -, rfl⟩ := hu
    have hk : k % 4 < 4 := Nat.mod_lt _ (by decide)
    rcases (show k % 4 = 0 ∨ k % 4 = 1 ∨ k % 4 = 2 ∨ k % 4 = 3 by omega) with e | e | e | e <;> (simp [e]; rfl)
  obtain ⟨c2, hb2, hs2⟩ := blk_setCells L (i * 4) w cur h
  refine ⟨w.setCells g (i * 4) L, c2, fun ty => ?_, hb2, hs2, fun o ho => World.cell?_setCells_out g L (i * 4) w _ (fun _ _ => .inl ho), fun B hB => below_setCells hB L (i * 4) w⟩
  have hv : (zeroValue 24).run Tryz.prog w = .ok (.agg #[.int .i64 0, .int .i64 0, .string ⟨#[]⟩, .slice none 0 0]) w := by kernel_rfl
  have hst := run_storeCells_cells (P := Tryz.prog) g (i * 4) L 0 w (fun j hj => by rw [h.cell]; rw [Array.getElem?_eq_getElem (by omega)]; rfl) (fun j hj => h.frozen _) hLo
  simp only [Nat.add_zero] at hst
  have hzc : (Value.agg #[.int .i64 0, .int .i64 0, .string ⟨#[]⟩, .slice none 0 0]).cells = #[.int .i64 0, .int .i64 0, .string ⟨#[]⟩, .slice none 0 0] := by rfl
  obtain ⟨m, rfl⟩ : ∃ m, n = m + 1 := ⟨n - 1, by omega⟩
  simp [Builtin.clear_, run_underlying Tryz.underlying113, hv, hzc, hL, hst]
end Go.Proofs.YtpanbeoelbhhgaaGreatDoor
namespace Go.Proofs.YtpanbeoelbhhgaaGreatDoor
open Go.RowKit
attribute [local go_sem ↓] Go.wp_at_zero Go.wp_at_succ
set_option maxHeartbeats 4000000
set_option maxRecDepth 100000
theorem idx_cases (p : Val → Bool) (vs : List Val) : (idxI p vs = -1 ∧ vs.any p = false) ∨ ∃ k : Nat, ∃ hk : k < vs.length, idxI p vs = k ∧ p vs[k] = true ∧ (vs.take k).filter (fun x => !p x) = vs.take k := by
  unfold idxI
  cases h : vs.any p with
  | false => exact .inl ⟨by rw [if_neg (by decide)], rfl⟩
  | true =>
    have hk : vs.findIdx p < vs.length := List.findIdx_lt_length.2 (by simpa using h)
    refine .inr ⟨vs.findIdx p, hk, by rw [if_pos rfl], List.findIdx_getElem, List.filter_eq_self.2 fun x hx => ?_⟩
    obtain ⟨j, hj, rfl⟩ := List.mem_iff_getElem.1 hx
    rw [List.length_take] at hj
    rw [List.getElem_take]
    have := List.not_of_lt_findIdx (p := p) (xs := vs) (i := j) (by omega)
    simpa using this
theorem filt_step {p : Val → Bool} {vs : List Val} {j : Nat} (hj : j < vs.length) : (vs.take (j + 1)).filter p = (vs.take j).filter p ++ (if p vs[j] = true then [vs[j]] else []) := by
  rw [List.take_succ_eq_append_getElem hj, List.filter_append]
  congr 1
  cases h : p vs[j] <;> simp [h]
/-- a row that is being thinned out: what is kept, and what was not looked at yet -/
structure Thin (w : World) (B0 g cap : Nat) (q : Val → Bool) (vs : List Val) (i j : Nat) : Prop where
  blk : ∃ cur, Blk w g 24 cur ∧ cur.size = cap * 4
  i : i = ((vs.take j).filter q).length
  lo : ∀ t (ht : t < ((vs.take j).filter q).length), ∃ A c, ValCells w B0 g (t * 4) ((vs.take j).filter q)[t] A c
  hi : ∀ t (ht : t < vs.length), j ≤ t → ∃ A c, ValCells w B0 g (t * 4) vs[t] A c
theorem Thin.keep {w w' : World} {B0 C g cap : Nat} {q : Val → Bool} {vs : List Val} {i j : Nat} (h : Thin w B0 g cap q vs i j) (hb : Below C w w') (hB : B0 ≤ C) (hg : g < C) : Thin w' B0 g cap q vs i j := by
  obtain ⟨⟨cur, h1, h2⟩, h3, h4, h5⟩ := h
  exact ⟨⟨cur, h1.below hb hg, h2⟩, h3, fun t ht => by obtain ⟨A, c, hv⟩ := h4 t ht; exact ⟨A, c, hv.keep hb hB hg⟩, fun t ht hj => by obtain ⟨A, c, hv⟩ := h5 t ht hj; exact ⟨A, c, hv.keep hb hB hg⟩⟩
theorem Thin.skip {w : World} {B0 g cap : Nat} {q : Val → Bool} {vs : List Val} {i j : Nat} (h : Thin w B0 g cap q vs i j) (hj : j < vs.length) (hq : q vs[j] = false) : Thin w B0 g cap q vs i (j + 1) := by
  have e : (vs.take (j + 1)).filter q = (vs.take j).filter q := by rw [filt_step hj, hq]; simp
  exact ⟨h.blk, by rw [e]; exact h.i, by rw [e]; exact h.lo, fun t ht hj => h.hi t ht (by omega)⟩
theorem cells_of {w W : World} {B0 B g o o' : Nat} {v : Val} {A : Option Addr} {c : Nat} (h : ValCells w B0 g o v A c) (hb : Below B w W) (hB : B0 ≤ B) (hc : ∀ k, k < 4 → W.cell? ⟨g, o' + k, none⟩ = w.cell? ⟨g, o + k, none⟩) : ValCells W B0 g o' v A c :=
  ⟨(hc 0 (by decide)).trans h.c0, (hc 1 (by decide)).trans h.c1, (hc 2 (by decide)).trans h.c2, (hc 3 (by decide)).trans h.c3, h.r.below (hb.mono hB), h.h1, h.h2⟩
theorem Thin.put {w : World} {B0 g cap : Nat} {q : Val → Bool} {vs : List Val} {i j : Nat} (h : Thin w B0 g cap q vs i j) (hj : j < vs.length) (hq : q vs[j] = true) (hcap : vs.length ≤ cap) (hB : B0 ≤ g) (hij : i ≤ j) {A : Option Addr} {c : Nat} (hr : Reads w B0 1 A vs[j].l.length (numV .i64 vs[j].l)) (h1 : vs[j].s.size ≤ maxLen) (h2 : vs[j].l.length ≤ maxLen) :
    ∃ W, W = (((w.setCell ⟨g, i * 4, none⟩ (.int .i64 vs[j].k)).setCell ⟨g, i * 4 + 1, none⟩ (.int .i64 vs[j].n)).setCell ⟨g, i * 4 + 2, none⟩ (.string vs[j].s)).setCell ⟨g, i * 4 + 3, none⟩ (.slice A vs[j].l.length c) ∧ Thin W B0 g cap q vs (i + 1) (j + 1) ∧ ∀ B, B ≤ g → Below B w W := by
  obtain ⟨⟨cur, hb, hs⟩, hi, hlo, hhi⟩ := h
  obtain ⟨W, cur', hW, hb', hs', z0, z1, z2, z3, hoth, hbel⟩ := put4 hb i (.int .i64 vs[j].k) (.int .i64 vs[j].n) (.string vs[j].s) (.slice A vs[j].l.length c) (by omega)
  have e : (vs.take (j + 1)).filter q = (vs.take j).filter q ++ [vs[j]] := by rw [filt_step hj, if_pos hq]
  have hbB := hbel g (Nat.le_refl _)
  refine ⟨W, hW, ⟨⟨cur', hb', by rw [hs', hs]⟩, by rw [e, List.length_append, ← hi]; rfl, fun t ht => ?_, fun t ht hjt => ?_⟩, hbel⟩
  · by_cases htl : t < ((vs.take j).filter q).length
    · obtain ⟨A', c', hv⟩ := hlo t htl
      have eg : ((vs.take (j + 1)).filter q)[t] = ((vs.take j).filter q)[t] := by
        simp only [e]
        exact List.getElem_append_left htl
      rw [eg]
      exact ⟨A', c', cells_of hv (hbel B0 hB) (Nat.le_refl _) (fun k hk => hoth _ (by omega))⟩
    · have hte : t = i := by rw [e, List.length_append] at ht; simp at ht; omega
      subst hte
      have eg : ((vs.take (j + 1)).filter q)[t] = vs[j] := by
        simp only [e]
        rw [List.getElem_append_right (by omega)]
        simp [hi]
      rw [eg]
      exact ⟨A, c, z0, z1, z2, z3, hr.below (hbel B0 hB), h1, h2⟩
  · obtain ⟨A', c', hv⟩ := hhi t ht (by omega)
    exact ⟨A', c', cells_of hv (hbel B0 hB) (Nat.le_refl _) (fun k hk => hoth _ (by omega))⟩
theorem Thin.cells {w : World} {B0 g cap : Nat} {q : Val → Bool} {vs : List Val} {i j : Nat} (h : Thin w B0 g cap q vs i j) (hi : i < cap) : ∃ z0 z1 z2 z3, w.cell? ⟨g, i * 4, none⟩ = some z0 ∧ w.frozen? ⟨g, i * 4, none⟩ = false ∧ w.cell? ⟨g, i * 4 + 1, none⟩ = some z1 ∧ w.frozen? ⟨g, i * 4 + 1, none⟩ = false ∧ w.cell? ⟨g, i * 4 + 2, none⟩ = some z2 ∧ w.frozen? ⟨g, i * 4 + 2, none⟩ = false ∧ w.cell? ⟨g, i * 4 + 3, none⟩ = some z3 ∧ w.frozen? ⟨g, i * 4 + 3, none⟩ = false := by
  obtain ⟨cur, hb, hs⟩ := h.blk
  exact ⟨_, _, _, _, (hb.cell _).trans (Array.getElem?_eq_getElem (by omega)), hb.frozen _, (hb.cell _).trans (Array.getElem?_eq_getElem (by omega)), hb.frozen _, (hb.cell _).trans (Array.getElem?_eq_getElem (by omega)), hb.frozen _, (hb.cell _).trans (Array.getElem?_eq_getElem (by omega)), hb.frozen _⟩
theorem deleteFunc_any {CAL : FuncId} {p : Val → Bool} (hP : PredV CAL p) (vs : List Val) (v : Value) (B0 B : Nat) (w : World) (hv : OV w B0 B v vs) (hB : B ≤ w.heap.size) (hB0 : B0 ≤ B) :
    Calls Tryz.prog 77 #[v, .func (.func CAL) #[] #[]] w fun e w' => (∃ v', e = .returned v' ∧ OV w' B0 B v' (vs.filter fun x => !p x)) ∧ Below B w w' := by
  have hCF := hP.cf
  obtain ⟨A, c, rfl⟩ := hv.form
  have HP := Lib.hid hP
  have HI := Lib.hid (indexFunc_any hP vs A c B0 w.heap.size w hv.args (Nat.le_refl _) (Nat.le_trans hB0 hB))
  rcases idx_cases p vs with ⟨e1, ha⟩ | ⟨k0, hk0, e1, hp0, hall⟩
  · rw [e1] at HI
    have HF := Lib.hid (show vs.filter (fun x => !p x) = vs from List.filter_eq_self.2 fun x hx => by
      have := List.any_eq_false.1 ha x hx
      simpa using this)
    have HV := Lib.hid hv
    clear hv hP ha
    go_enter Tryz.func77, Tryz.ntmps77
    go_wp2_with (go_at_call 117; refine HI.out.mono ?_; rintro e w2 ⟨rfl, hb2⟩)
    go_ret
    exact ⟨⟨_, rfl, by rw [HF.out]; exact HV.out.below hb2 (Nat.le_trans hB0 hB)⟩, hb2.mono hB⟩
  · rw [e1] at HI
    rcases hv with ⟨-, rfl⟩ | ⟨g, cap, cur, e, hg, hk, h1, h2, h3, hc⟩
    · exact absurd hk0 (Nat.not_lt_zero _)
    · injection e with ea _ ec
      subst ea ec
      have hglt := hk.lt
      have HTH : Hid (Thin w B0 g c (fun x => !p x) vs k0 (k0 + 1)) := Lib.hid (by
        have ef : (vs.take (k0 + 1)).filter (fun x => !p x) = vs.take k0 := by rw [filt_step hk0, hp0, hall]; simp
        refine ⟨⟨cur, hk, h3⟩, by rw [ef, List.length_take]; omega, fun t ht => ?_, fun t ht _ => hc t ht⟩
        have ht' : t < vs.length := by rw [ef, List.length_take] at ht; omega
        obtain ⟨A', c', hq⟩ := hc t ht'
        refine ⟨A', c', ?_⟩
        have : ((vs.take (k0 + 1)).filter (fun x => !p x))[t] = vs[t] := by simp only [ef]; rw [List.getElem_take]
        rw [this]
        exact hq)
      have hne1 : ((k0 : Int) == -1) = false := beq_eq_false_iff_ne.2 (by omega)
      have HCAP := Lib.hid h1
      have hcM := h2
      unfold maxLen at hcM
      clear hc hk h3 hP hall hp0 cur e1
      go_enter Tryz.func77, Tryz.ntmps77
      go_wp2_with (go_at_call 117; refine HI.out.mono ?_; rintro e w2 ⟨rfl, hb2⟩)
      go_loopw [5, 6, 7] (fun s5 s6 _ wr => ∃ i j : Nat, s5 = .int .i64 i ∧ s6 = .int .i64 j ∧ i < j ∧ j ≤ vs.length ∧ Hid (Thin wr B0 g c (fun x => !p x) vs i j) ∧ Below B w wr ∧ w.heap.size ≤ wr.heap.size) (fun _ s6 _ _ => vs.length - (intOf s6).toNat)
      case atStart => exact ⟨k0, k0 + 1, rfl, by go_num, by omega, by omega, Lib.hid (HTH.out.keep hb2 (Nat.le_trans hB0 hB) hglt), hb2.mono hB, hb2.size⟩
      case round =>
        obtain ⟨i, j, rfl, rfl, hij, hjn, HT, hbr, hsz⟩ := hrel
        by_cases hlt : j < vs.length
        · obtain ⟨A', c', hv⟩ := HT.out.hi j hlt (Nat.le_refl _)
          obtain ⟨v, hvv⟩ : ∃ v, vs[j] = v := ⟨_, rfl⟩
          have HVV := Lib.hid hvv
          rw [hvv] at hv
          have HVC := Lib.hid hv
          have c0 := hv.c0
          have c1 := hv.c1
          have c2 := hv.c2
          have c3 := hv.c3
          have hlI : (j : Int) < (vs.length : Nat) := by omega
          have hiI : (i : Int) < (vs.length : Nat) := by omega
          have HLT := Lib.hid hlt
          have hgr : g < wr.heap.size := by omega
          obtain ⟨W1, hW1⟩ : ∃ W1, W1 = wr.alloc (.cells #[.int .i64 v.k, .int .i64 v.n, .string v.s, .slice A' v.l.length c'] 24 (0, 0)) := ⟨_, rfl⟩
          have hb1 : Below wr.heap.size wr W1 := hW1 ▸ below_a wr _
          have BX : Blk W1 wr.heap.size 24 #[.int .i64 v.k, .int .i64 v.n, .string v.s, .slice A' v.l.length c'] := hW1 ▸ Blk.new wr _ _
          obtain ⟨q, hq⟩ : ∃ q, p v = q := ⟨_, rfl⟩
          have HC := Lib.hid (by
            have h := HP.out.call W1 v A' c'
            rw [hq] at h
            exact h)
          have HQ := Lib.hid hq
          obtain ⟨b0, -, b1, -, b2, -, b3, -⟩ := BX.z4
          clear hv hvv hq
          have HB0 := Lib.hid (show B0 ≤ wr.heap.size by omega)
          have HBW := Lib.hid (And.intro hbr hsz)
          clear hbr hsz c0 c1 c2 c3
          have c0 := HVC.out.c0
          have c1 := HVC.out.c1
          have c2 := HVC.out.c2
          have c3 := HVC.out.c3
          cases q
          · go_upto_region 8 with (fail)
            rw [← hW1]
            clear hW1 c0 c1 c2 c3
            go_wp2_with (go_at_fn CAL; refine HC.out.mono ?_; rintro e w4 ⟨rfl, hb4⟩; have hr4 := hb1.trans (hb4.mono hb1.size); have HT4 := Lib.hid (HT.out.keep hr4 HB0.out hgr); obtain ⟨z0, z1, z2, z3, hz0, hf0, hz1, hf1, hz2, hf2, hz3, hf3⟩ := HT4.out.cells (by omega); obtain ⟨d0, -, d1, -, d2, -, d3, -⟩ := (BX.below hb4 BX.lt).z4)
            obtain ⟨W5, hW5, hT5, hb5⟩ := by
              have h := HT4.out.put (A := A') (c := c') HLT.out (by rw [HVV.out, HQ.out]; rfl) HCAP.out (by omega) (by omega) (by rw [HVV.out]; exact HVC.out.r.below (hr4.mono HB0.out)) (by rw [HVV.out]; exact HVC.out.h1) (by rw [HVV.out]; exact HVC.out.h2)
              rw [HVV.out] at h
              exact h
            rw [← hW5]
            clear hW5 hz0 hz1 hz2 hz3 hf0 hf1 hf2 hf3 d0 d1 d2 d3
            have HT6 := Lib.hid hT5
            clear hT5
            have hbw5 := hb5 B hg
            have hbB : Below B w W5 := (HBW.out.1.trans (hr4.mono (by have := HBW.out.2; omega))).trans hbw5
            go_roundw
            case rel => exact ⟨i + 1, j + 1, by go_num, by go_num, by omega, HLT.out, HT6, hbB, Nat.le_trans HBW.out.2 (Nat.le_trans hr4.size hbw5.size)⟩
            case measure =>
              have := HLT.out
              simp [intOf]
              omega
          · go_upto_region 8 with (fail)
            rw [← hW1]
            clear hW1 c0 c1 c2 c3
            go_wp2_with (go_at_fn CAL; refine HC.out.mono ?_; rintro e w4 ⟨rfl, hb4⟩; have hr4 := hb1.trans (hb4.mono hb1.size); have HT4 := Lib.hid (HT.out.keep hr4 HB0.out hgr))
            have hbB : Below B w w4 := HBW.out.1.trans (hr4.mono (by have := HBW.out.2; omega))
            go_roundw
            case rel => exact ⟨i, j + 1, rfl, by go_num, by omega, HLT.out, Lib.hid (HT4.out.skip HLT.out (by rw [HVV.out, HQ.out]; rfl)), hbB, Nat.le_trans HBW.out.2 hr4.size⟩
            case measure =>
              have := HLT.out
              simp [intOf]
              omega
        · have hje : j = vs.length := by omega
          subst hje
          obtain ⟨cur, hk, hks⟩ := HT.out.blk
          obtain ⟨W, cur', hcl, hk', hks', hsame, hbel⟩ := clear4 hk i (vs.length - i) (c - i) (by omega) (by omega)
          have HIN := Lib.hid (show i = (vs.filter fun x => !p x).length by have h := HT.out.i; rwa [List.take_length] at h)
          have HOV := Lib.hid (show OV W B0 B (.slice (some ⟨g, 0, none⟩) i c) (vs.filter fun x => !p x) from .inr ⟨g, c, cur', by rw [HIN.out], hg, hk', by rw [← HIN.out]; omega, h2, by rw [hks', hks], fun t ht => by
            obtain ⟨A', c', hv⟩ := HT.out.lo t (by rw [List.take_length]; exact ht)
            simp only [List.take_length] at hv
            exact ⟨A', c', cells_of hv (hbel B0 (by omega)) (Nat.le_refl _) (fun k hk => hsame _ (by rw [← HIN.out] at ht; omega))⟩⟩)
          have HBW := Lib.hid (hbr.trans (hbel B hg))
          have hiI : (i : Int) < (vs.length : Nat) := by omega
          have hlI : ¬ ((vs.length : Nat) : Int) < (vs.length : Nat) := by omega
          clear hk hks hk' hks' hsame hbel hbr hlt
          go_wp2_with fail
          go_ret
          exact ⟨⟨_, rfl, HOV.out⟩, HBW.out⟩
end Go.Proofs.YtpanbeoelbhhgaaGreatDoor
