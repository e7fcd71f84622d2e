/- The walk of read: a deferred closure that recovers. · The walk of the parser's next, from any state of its cells. · The walk of read. -/
import Derived.Test.YtobanldeicclmaaGreatDoorP21
import Derived.Recover
import Derived.Defers
import Derived.Laws.Pointers
import Derived.Test.YtobanldeicclmaaGreatDoorP10
import Derived.Deep.RegionHeld3
import Derived.IntWalk
namespace Go.Proofs.YtobanldeicclmaaGreatDoor
open Go.RowKit Vtx
attribute [local go_sem ↓] Go.wp_at_zero Go.wp_at_succ
/-- the three results of read in memory -/
structure St (w0 : World) (b0 b1 b2 : Nat) (a0 : Array Value) (x1 x2 : Value) (w : World) : Prop where
  c0 : Blk w b0 27 a0
  c1 : Blk w b1 3 #[x1]
  c2 : Blk w b2 28 #[x2]
  os : w.os = w0.os
  tape : w.tape = w0.tape
  output : w.output = w0.output
  size : w0.heap.size ≤ w.heap.size
  far : ∀ k, k < w0.heap.size → k ≠ b0 → k ≠ b1 → k ≠ b2 → w.heap[k]? = w0.heap[k]?
theorem St.set0 {w0 w : World} {b0 b1 b2 : Nat} {u0 u1 u2 u3 u4 u5 u6 u7 x1 x2 : Value} (h : St w0 b0 b1 b2 #[u0, u1, u2, u3, u4, u5, u6, u7] x1 x2 w) (h1 : b0 ≠ b1) (h2 : b0 ≠ b2) (v0 v1 v2 v3 v4 v5 v6 v7 : Value) : St w0 b0 b1 b2 #[v0, v1, v2, v3, v4, v5, v6, v7] x1 x2 (set8 w b0 v0 v1 v2 v3 v4 v5 v6 v7) := by
  have far : ∀ k, k ≠ b0 → (set8 w b0 v0 v1 v2 v3 v4 v5 v6 v7).heap[k]? = w.heap[k]? := fun k hk => set8_far _ _ _ _ _ _ _ _ _ _ k hk
  have f1 : ∀ (w' : World) (i : Nat) (v : Value), (w'.setCell ⟨b0, i, none⟩ v).os = w'.os := fun _ _ _ => rfl
  have f2 : ∀ (w' : World) (i : Nat) (v : Value), (w'.setCell ⟨b0, i, none⟩ v).tape = w'.tape := fun _ _ _ => rfl
  have f3 : ∀ (w' : World) (i : Nat) (v : Value), (w'.setCell ⟨b0, i, none⟩ v).output = w'.output := fun _ _ _ => rfl
  exact ⟨set8_blk h.c0 v0 v1 v2 v3 v4 v5 v6 v7, by unfold Blk; rw [far _ (fun e => h1 e.symm)]; exact h.c1, by unfold Blk; rw [far _ (fun e => h2 e.symm)]; exact h.c2, by simp only [set8, f1]; exact h.os, by simp only [set8, f2]; exact h.tape, by simp only [set8, f3]; exact h.output, by rw [set8_size]; exact h.size, fun k hl hk0 hk1 hk2 => by rw [far k hk0]; exact h.far k hl hk0 hk1 hk2⟩
theorem St.set1 {w0 w : World} {b0 b1 b2 : Nat} {a0 : Array Value} {x1 x2 : Value} (h : St w0 b0 b1 b2 a0 x1 x2 w) (h1 : b0 ≠ b1) (h2 : b1 ≠ b2) (v : Value) : St w0 b0 b1 b2 a0 v x2 (w.setCell ⟨b1, 0, none⟩ v) := by
  have far : ∀ k, k ≠ b1 → (w.setCell ⟨b1, 0, none⟩ v).heap[k]? = w.heap[k]? := fun k hk => Below.heap_setCell w ⟨b1, 0, none⟩ v k hk
  exact ⟨by unfold Blk; rw [far _ h1]; exact h.c0, by simpa using h.c1.set_ 0 v, by unfold Blk; rw [far _ (fun e => h2 e.symm)]; exact h.c2, h.os, h.tape, h.output, by simp [World.setCell]; exact h.size, fun k hl hk0 hk1 hk2 => by rw [far k hk1]; exact h.far k hl hk0 hk1 hk2⟩
theorem St.set2 {w0 w : World} {b0 b1 b2 : Nat} {a0 : Array Value} {x1 x2 : Value} (h : St w0 b0 b1 b2 a0 x1 x2 w) (h1 : b0 ≠ b2) (h2 : b1 ≠ b2) (v : Value) : St w0 b0 b1 b2 a0 x1 v (w.setCell ⟨b2, 0, none⟩ v) := by
  have far : ∀ k, k ≠ b2 → (w.setCell ⟨b2, 0, none⟩ v).heap[k]? = w.heap[k]? := fun k hk => Below.heap_setCell w ⟨b2, 0, none⟩ v k hk
  exact ⟨by unfold Blk; rw [far _ h1]; exact h.c0, by unfold Blk; rw [far _ h2]; exact h.c1, by simpa using h.c2.set_ 0 v, h.os, h.tape, h.output, by simp [World.setCell]; exact h.size, fun k hl hk0 hk1 hk2 => by rw [far k hk2]; exact h.far k hl hk0 hk1 hk2⟩
theorem St.below {w0 w w' : World} {b0 b1 b2 : Nat} {a0 : Array Value} {x1 x2 : Value} (h : St w0 b0 b1 b2 a0 x1 x2 w) (hb : Below w.heap.size w w') : St w0 b0 b1 b2 a0 x1 x2 w' :=
  ⟨h.c0.below hb h.c0.lt, h.c1.below hb h.c1.lt, h.c2.below hb h.c2.lt, hb.os.trans h.os, hb.tape.trans h.tape, hb.output.trans h.output, Nat.le_trans h.size hb.size, fun k hl hk0 hk1 hk2 => (hb.block k (Nat.lt_of_lt_of_le hl h.size)).trans (h.far k hl hk0 hk1 hk2)⟩
theorem St.toBelow {w0 w : World} {b0 b1 b2 B : Nat} {a0 : Array Value} {x1 x2 : Value} (h : St w0 b0 b1 b2 a0 x1 x2 w) (hB : B ≤ w0.heap.size) (h0 : B ≤ b0) (h1 : B ≤ b1) (h2 : B ≤ b2) : Below B w0 w :=
  ⟨h.os, h.tape, h.output, h.size, fun k hk => h.far k (by omega) (by omega) (by omega) (by omega)⟩
set_option maxHeartbeats 4000000 in
set_option maxRecDepth 100000 in
theorem catch_any (w : World) (b0 b1 b2 k : Nat) (h01 : b0 ≠ b1) (h02 : b0 ≠ b2) (h12 : b1 ≠ b2) (u0 u1 u2 u3 u4 u5 u6 u7 x1 x2 : Value) (older : List PanicEntry) (h : St w b0 b1 b2 #[u0, u1, u2, u3, u4, u5, u6, u7] x1 x2 w) :
    CallsD Tryz.prog 29 #[.pointer (some ⟨b0, 0, none⟩), .pointer (some ⟨b1, 0, none⟩), .pointer (some ⟨b2, 0, none⟩)] (.panicking ({ v := .iface 61 (.agg #[.int .i64 (k : Nat)]), recovered := false } :: older)) w fun e u' w' =>
      e = .returned (.tuple #[]) ∧ u' = .panicking ({ v := .iface 61 (.agg #[.int .i64 (k : Nat)]), recovered := true } :: older) ∧ St w b0 b1 b2 #[.int .i64 0, .int .i64 0, .string ⟨#[]⟩, .int .i64 0, .int .i64 0, .string ⟨#[]⟩, .slice none 0 0, .slice none 0 0] (.int .i64 (k : Nat)) (.int .i64 10) w' := by
  have hta : ∀ (v : Value) (W : World), (Instr.typeAssert (.iface 61 v) 20 61 true).run Tryz.prog W = .ok (.tuple #[v, .bool true]) W := fun _ _ => by kernel_rfl
  have HS := Lib.hid h
  clear h
  refine callsD_of_wpS Tryz.func29 rfl fun c₀ cs hu => ?_
  apply wpS_seq
  apply wpS_region
  simp [wpOpsS, go_sem, recoverD, hu, Tryz.ntmps29, Exit.thenS]
  refine wpS_of_wp ?_
  simp only [show (Array.replicate 17 undef : Array Value) = #[undef, undef, undef, undef, undef, undef, undef, undef, undef, undef, undef, undef, undef, undef, undef, undef, undef] from rfl, List.setIfInBounds_toArray, List.set_cons_zero, List.set_cons_succ, List.append_toArray, List.cons_append, List.nil_append]
  have B0 := HS.out.c0
  have B1 := HS.out.c1
  have B2 := HS.out.c2
  have hn0 : w.heap.size ≠ b0 := by have := B0.lt; omega
  have hn1 : w.heap.size ≠ b1 := by have := B1.lt; omega
  have hn2 : w.heap.size ≠ b2 := by have := B2.lt; omega
  go_upto_region 5 with (fail)
  obtain ⟨W, hW⟩ : ∃ W, W = w.alloc (.cells #[.int .i64 (k : Nat)] 61 (0, 0)) := ⟨_, rfl⟩
  have HSW := Lib.hid (show St w b0 b1 b2 #[u0, u1, u2, u3, u4, u5, u6, u7] x1 x2 W by rw [hW]; exact HS.out.below ((Below.refl _ _).alloc (Nat.le_refl _) _))
  have BS : Blk W w.heap.size 61 #[.int .i64 (k : Nat)] := by rw [hW]; exact Blk.new w _ _
  have sc0 : W.cell? ⟨w.heap.size, 0, none⟩ = some (.int .i64 (k : Nat)) := BS.cell 0
  rw [← hW]
  clear hW B0 B1 B2
  have B0 := HSW.out.c0
  have B1 := HSW.out.c1
  have B2 := HSW.out.c2
  have rc0 : W.cell? ⟨b0, 0, none⟩ = some (u0) := B0.cell 0
  have rz0 : W.frozen? ⟨b0, 0, none⟩ = false := B0.frozen 0
  have rc1 : W.cell? ⟨b0, 1, none⟩ = some (u1) := B0.cell 1
  have rz1 : W.frozen? ⟨b0, 1, none⟩ = false := B0.frozen 1
  have rc2 : W.cell? ⟨b0, 2, none⟩ = some (u2) := B0.cell 2
  have rz2 : W.frozen? ⟨b0, 2, none⟩ = false := B0.frozen 2
  have rc3 : W.cell? ⟨b0, 3, none⟩ = some (u3) := B0.cell 3
  have rz3 : W.frozen? ⟨b0, 3, none⟩ = false := B0.frozen 3
  have rc4 : W.cell? ⟨b0, 4, none⟩ = some (u4) := B0.cell 4
  have rz4 : W.frozen? ⟨b0, 4, none⟩ = false := B0.frozen 4
  have rc5 : W.cell? ⟨b0, 5, none⟩ = some (u5) := B0.cell 5
  have rz5 : W.frozen? ⟨b0, 5, none⟩ = false := B0.frozen 5
  have rc6 : W.cell? ⟨b0, 6, none⟩ = some (u6) := B0.cell 6
  have rz6 : W.frozen? ⟨b0, 6, none⟩ = false := B0.frozen 6
  have rc7 : W.cell? ⟨b0, 7, none⟩ = some (u7) := B0.cell 7
  have rz7 : W.frozen? ⟨b0, 7, none⟩ = false := B0.frozen 7
  have xc1 : W.cell? ⟨b1, 0, none⟩ = some x1 := B1.cell 0
  have xz1 : W.frozen? ⟨b1, 0, none⟩ = false := B1.frozen 0
  have xc2 : W.cell? ⟨b2, 0, none⟩ = some x2 := B2.cell 0
  have xz2 : W.frozen? ⟨b2, 0, none⟩ = false := B2.frozen 0
  go_region
  have HS9 := Lib.hid ((((HSW.out.set0 h01 h02 (.int .i64 0) (.int .i64 0) (.string ⟨#[]⟩) (.int .i64 0) (.int .i64 0) (.string ⟨#[]⟩) (.slice none 0 0) (.slice none 0 0)).set1 h01 h12 (.int .i64 (k : Nat))).set2 h02 h12 (.int .i64 10)).below (Below.refl _ _).drew)
  go_wp2_with fail
  exact ⟨rfl, _, rfl, .tuple #[], by simp [results, Tryz.results29, go_sem], rfl, rfl, HS9.out⟩
theorem idle_any (p0 p1 p2 : Addr) (w : World) :
    CallsD Tryz.prog 29 #[.pointer (some p0), .pointer (some p1), .pointer (some p2)] .returning w fun e u' w' => e = .returned (.tuple #[]) ∧ u' = .returning ∧ w' = w := by
  refine callsD_of_wpS Tryz.func29 rfl fun c₀ cs hu => ?_
  apply wpS_seq
  apply wpS_region
  simp [wpOpsS, go_sem, recoverD, hu, Tryz.ntmps29, Exit.thenS]
  refine wpS_of_wp ?_
  simp only [show (Array.replicate 17 undef : Array Value) = #[undef, undef, undef, undef, undef, undef, undef, undef, undef, undef, undef, undef, undef, undef, undef, undef, undef] from rfl, List.setIfInBounds_toArray, List.set_cons_zero, List.set_cons_succ, List.append_toArray, List.cons_append, List.nil_append]
  go_wp2_with fail
  cases c₀
  simp_all [bodyPostS, results, Tryz.results29]
end Go.Proofs.YtobanldeicclmaaGreatDoor
namespace Go.Proofs.YtobanldeicclmaaGreatDoor
open Go.RowKit Vtx
set_option maxHeartbeats 2000000 in
set_option maxRecDepth 100000 in
theorem next_raw (g : Nat) (s : ByteArray) (A : Nat) (u : ByteArray) (d0 : Bool) (w : World) (hb : Blk w g 65 #[.string s, .int .i64 (A : Nat), .string u, .bool d0]) (hE0 : A + u.size ≤ s.size) (hs : s.size ≤ 4000) :
    Calls Tryz.prog 30 #[.pointer (some ⟨g, 0, none⟩)] w fun e w' => e = .returned (.tuple #[]) ∧ PaAt w' g s (A + u.size) ∧ Kp g w w' := by
  have HB := Lib.hid hb
  obtain ⟨E, hE⟩ : ∃ E, A + u.size = E := ⟨_, rfl⟩
  rw [hE] at hE0 ⊢
  have hcl : E ≤ E ∧ E ≤ s.size := ⟨Nat.le_refl _, hE0⟩
  obtain ⟨J, hJ⟩ : ∃ J, J = E + spanP blankB (s.data.toList.drop E) := ⟨_, rfl⟩
  have hJle : J ≤ s.size := by
    have h1 := span_le blankB (s.data.toList.drop E)
    rw [List.length_drop, data_len] at h1
    omega
  obtain ⟨T, hT⟩ : ∃ T, curTouch s E = T := ⟨_, rfl⟩
  have HJ := Lib.hid hJ
  have HT := Lib.hid hT
  have c0 : w.cell? ⟨g, 0, none⟩ = some (.string s) := HB.out.cell 0
  have c1 : w.cell? ⟨g, 1, none⟩ = some (.int .i64 (A : Nat)) := HB.out.cell 1
  have c2 : w.cell? ⟨g, 2, none⟩ = some (.string u) := HB.out.cell 2
  have hEi : ((A : Nat) : Int) + (u.size : Nat) = (E : Nat) := by omega
  have hEw : IntKind.i64.wrap (((A : Nat) : Int) + (u.size : Nat)) = (E : Nat) := by rw [hEi]; exact IntWalk.i64_in _ (by omega)
  clear hJ hT hE hb hE0
  go_enter Tryz.func30, Tryz.ntmps30
  go_upto_region 0 with (fail)
  go_quiet (fail)
  obtain ⟨W, hW⟩ : ∃ W, W = w.drewN nq := ⟨_, rfl⟩
  have HKW := Lib.hid (show Kp g w W by rw [hW]; exact kp_drew (kp_refl g w) nq)
  have HBW := Lib.hid (show Blk W g 65 #[.string s, .int .i64 (A : Nat), .string u, .bool d0] by rw [hW]; exact HB.out.drewN nq)
  rw [← hW]
  clear c0 c1 c2 hW hEi hEw
  have c0 : W.cell? ⟨g, 0, none⟩ = some (.string s) := HBW.out.cell 0
  have z3 : W.frozen? ⟨g, 3, none⟩ = false := HBW.out.frozen 3
  have c3 : W.cell? ⟨g, 3, none⟩ = some (.bool d0) := HBW.out.cell 3
  go_wp2_with fail
  go_loop [3] (fun x => ∃ n : Nat, E ≤ n ∧ n ≤ s.size ∧ x = .int .i64 n ∧ Hid (J = n + spanP blankB (s.data.toList.drop n))) (fun x => s.size - (intOf x).toNat)
  case atStart => exact ⟨E, Nat.le_refl _, hcl.2, rfl, HJ⟩
  case round =>
    obtain ⟨n, hEn, hn, rfl, HR⟩ := hrel
    by_cases hlt : n < s.size
    · have HLT := Lib.hid hlt
      by_cases h32 : s[n].toNat = 32
      · have HG := Lib.hid (span_step hlt (show blankB s[n] = true from decide_eq_true ((toNat_eq s[n] 32 (by decide)).2 h32)) HR.out)
        have b1 : ((s[n].toNat : Int) == 32) = true := by simp; omega
        clear h32
        go_wp2_with fail
        go_round
        case rel => exact ⟨n + 1, by omega, HLT.out, by go_num, HG⟩
        case measure =>
          have := HLT.out
          simp [intOf]
          omega
      · have hJn := span_last hlt (show blankB s[n] = false from decide_eq_false (fun e => h32 ((toNat_eq s[n] 32 (by decide)).1 e))) HR.out
        have b1 : ((s[n].toNat : Int) == 32) = false := by simp; omega
        obtain ⟨hcA, hcT, hcU⟩ := cur_some HJ.out (by rw [hJn]; exact hlt)
        subst hJn
        have HTV := Lib.hid (HT.out.symm.trans hcU)
        have HCA := Lib.hid (And.intro hcA hcT)
        clear h32 hcA hcT hcU
        go_upto_region 4 with (fail)
        go_cut [3] (fun x wc => x = .int .i64 (J : Nat) ∧ wc = W.setCell ⟨g, 3, none⟩ (.bool T))
        case first =>
          by_cases hJE : J = E
          · subst hJE
            have hbe : (((J : Nat) : Int) == ((J : Nat) : Int)) = true := by simp
            by_cases hE0 : 0 < J
            · have hi0 : J - 1 < s.size := by omega
              obtain ⟨b1, hb1⟩ : ∃ b, wordB s[J - 1] = b := ⟨_, rfl⟩
              obtain ⟨b2, hb2⟩ : ∃ b, wordB (s[J]'hlt) = b := ⟨_, rfl⟩
              have HTT := Lib.hid (show T = (b1 && b2) by rw [HTV.out, getD_ba hi0, getD_ba hlt, hb1, hb2, decide_eq_true hE0]; simp)
              have HW1 := Lib.hid (show Calls Tryz.prog 52 #[.int .u8 (s[J - 1].toNat : Nat)] W fun e w'' => e = .returned (.bool b1) ∧ W = w'' from by
                exact (isWordByte_any s[J - 1] W).mono fun e w'' ⟨he, hw⟩ => ⟨he.trans (congrArg (fun x => Ending.returned (.bool x)) hb1), hw⟩)
              have HW2 := Lib.hid (show Calls Tryz.prog 52 #[.int .u8 ((s[J]'hlt).toNat : Nat)] W fun e w'' => e = .returned (.bool b2) ∧ W = w'' from by
                exact (isWordByte_any (s[J]'hlt) W).mono fun e w'' ⟨he, hw⟩ => ⟨he.trans (congrArg (fun x => Ending.returned (.bool x)) hb2), hw⟩)
              have hE1 : ((J : Nat) : Int) - 1 = ((J - 1 : Nat) : Int) := by omega
              have hE1w : IntKind.i64.wrap (((J : Nat) : Int) - 1) = ((J - 1 : Nat) : Int) := by rw [hE1]; exact IntWalk.i64_in _ (by omega)
              have hE0i : (0 : Int) < ((J : Nat) : Int) := by omega
              clear hb1 hb2 hE1
              cases b1
              · go_wp2_with (go_at_call 52; (with_reducible refine HW1.out.mono ?_); rintro e w1 ⟨rfl, rfl⟩)
                go_meet
                exact ⟨rfl, by rw [HTT.out]; rfl⟩
              · cases b2
                · go_wp2_with (first | (go_at_call 52; (with_reducible refine HW1.out.mono ?_); rintro e w1 ⟨rfl, rfl⟩) | (go_at_call 52; (with_reducible refine HW2.out.mono ?_); rintro e w1 ⟨rfl, rfl⟩))
                  go_meet
                  exact ⟨rfl, by rw [HTT.out]; rfl⟩
                · go_wp2_with (first | (go_at_call 52; (with_reducible refine HW1.out.mono ?_); rintro e w1 ⟨rfl, rfl⟩) | (go_at_call 52; (with_reducible refine HW2.out.mono ?_); rintro e w1 ⟨rfl, rfl⟩))
                  go_meet
                  exact ⟨rfl, by rw [HTT.out]; rfl⟩
            · have HTT := Lib.hid (show T = false by rw [HTV.out, decide_eq_false hE0]; simp)
              have hJ0 : ¬ (0 : Int) < ((J : Nat) : Int) := by omega
              go_wp2_with fail
              go_meet
              exact ⟨rfl, by rw [HTT.out]⟩
          · have HTT := Lib.hid (show T = false by rw [HTV.out, decide_eq_false hJE]; simp)
            have hbe : (((J : Nat) : Int) == ((E : Nat) : Int)) = false := by simp; omega
            have hbe2 : (J == E) = false := by simp; omega
            go_wp2_with fail
            go_meet
            exact ⟨rfl, by rw [HTT.out]⟩
        case rest =>
        obtain ⟨rfl, rfl⟩ := hcut
        have B4 := blk3 HBW.out (.bool T)
        obtain ⟨W4, hW4⟩ : ∃ W4, W4 = W.setCell ⟨g, 3, none⟩ (.bool T) := ⟨_, rfl⟩
        have HK4 := Lib.hid (show Kp g w W4 by rw [hW4]; exact HKW.out.set 3 _)
        rw [← hW4] at B4
        have HB4 := Lib.hid B4
        rw [← hW4]
        clear B4 hW4 c0 z3 c3
        have c0 : W4.cell? ⟨g, 0, none⟩ = some (.string s) := HB4.out.cell 0
        have c1 : W4.cell? ⟨g, 1, none⟩ = some (.int .i64 (A : Nat)) := HB4.out.cell 1
        have c2 : W4.cell? ⟨g, 2, none⟩ = some (.string u) := HB4.out.cell 2
        have z1 : W4.frozen? ⟨g, 1, none⟩ = false := HB4.out.frozen 1
        have z2 : W4.frozen? ⟨g, 2, none⟩ = false := HB4.out.frozen 2
        have hL := wordLen_le (s.data.toList.drop J)
        rw [List.length_drop, data_len] at hL
        obtain ⟨N, hN⟩ : ∃ N, J + wordLen (s.data.toList.drop J) = N := ⟨_, rfl⟩
        have HN := Lib.hid hN
        have hN1 : (0 : Int) ≤ ((J : Nat) : Int) := by omega
        have hN2 : ((J : Nat) : Int) ≤ ((N : Nat) : Int) := by omega
        have hN3 : ((N : Nat) : Int) ≤ ((s.size : Nat) : Int) := by omega
        have hN4 : J ≤ N := by omega
        have hN5 : N ≤ s.size := by omega
        have hlti : ((J : Nat) : Int) < ((s.size : Nat) : Int) := by omega
        have HWE := Lib.hid (fun (w' : World) (hc : w'.cell? ⟨g, 0, none⟩ = some (.string s)) => (show Calls Tryz.prog 53 #[.pointer (some ⟨g, 0, none⟩), .int .i64 (J : Nat)] w' fun e w'' => e = .returned (.int .i64 (N : Nat)) ∧ w' = w'' from by
          have h := wordEnd_any g s J w' hc hlt hs
          rwa [hN] at h))
        clear hL hN
        go_upto_region 7 with (fail)
        obtain ⟨W5, hW5⟩ : ∃ W5, W5 = (W4.setCell ⟨g, 1, none⟩ (.int .i64 (J : Nat))).setCell ⟨g, 2, none⟩ (.string ⟨#[]⟩) := ⟨_, rfl⟩
        have HB5 := Lib.hid (show Blk W5 g 65 #[.string s, .int .i64 (J : Nat), .string ⟨#[]⟩, .bool T] by rw [hW5]; exact blk2 (blk1 HB4.out _) _)
        have HK5 := Lib.hid (show Kp g w W5 by rw [hW5]; exact (HK4.out.set 1 _).set 2 _)
        rw [← hW5]
        clear hW5 c0 c1 c2 z1 z2
        have c0 : W5.cell? ⟨g, 0, none⟩ = some (.string s) := HB5.out.cell 0
        have c2 : W5.cell? ⟨g, 2, none⟩ = some (.string ⟨#[]⟩) := HB5.out.cell 2
        have z2 : W5.frozen? ⟨g, 2, none⟩ = false := HB5.out.frozen 2
        go_region_with (go_at_call 53; (with_reducible refine (HWE.out _ (by simpa using c0)).mono ?_); rintro e w1 ⟨rfl, rfl⟩)
        all_goals
          go_wp2_with fail
          go_end0
          refine ⟨rfl, ⟨?_, hcl.2, hs⟩, (HK5.out.set 2 _).trans (Kp.of (Below.refl _ _).drew)⟩
          rw [HCA.out.1, HCA.out.2, HT.out, ← ext_tb, HN.out]
          exact (blk2 HB5.out _).drew
    · have hJn := span_out hlt HR.out
      obtain ⟨hcA, hcT, hcU⟩ := cur_none HJ.out (by rw [hJn]; exact hlt)
      have hns : n = s.size := by omega
      subst hJn
      have HTF := Lib.hid (HT.out.symm.trans hcU)
      have HCA := Lib.hid (And.intro (hcA.trans hns.symm) hcT)
      have HNS := Lib.hid hns
      have hlti : ¬ ((J : Nat) : Int) < ((s.size : Nat) : Int) := by omega
      clear hcA hcT hcU hns
      go_upto_region 4 with (fail)
      go_cut [3] (fun x wc => x = .int .i64 (J : Nat) ∧ wc = W.setCell ⟨g, 3, none⟩ (.bool T))
      case first =>
        by_cases hJE : J = E
        · subst hJE
          have hbe : (((J : Nat) : Int) == ((J : Nat) : Int)) = true := by simp
          by_cases hE0 : 0 < J
          · have hE0i : (0 : Int) < ((J : Nat) : Int) := by omega
            go_wp2_with fail
            go_meet
            exact ⟨rfl, by rw [HTF.out]⟩
          · have hJ0 : ¬ (0 : Int) < ((J : Nat) : Int) := by omega
            go_wp2_with fail
            go_meet
            exact ⟨rfl, by rw [HTF.out]⟩
        · have hbe : (((J : Nat) : Int) == ((E : Nat) : Int)) = false := by simp; omega
          have hbe2 : (J == E) = false := by simp; omega
          go_wp2_with fail
          go_meet
          exact ⟨rfl, by rw [HTF.out]⟩
      case rest =>
      obtain ⟨rfl, rfl⟩ := hcut
      have B4 := blk3 HBW.out (.bool T)
      obtain ⟨W4, hW4⟩ : ∃ W4, W4 = W.setCell ⟨g, 3, none⟩ (.bool T) := ⟨_, rfl⟩
      have HK4 := Lib.hid (show Kp g w W4 by rw [hW4]; exact HKW.out.set 3 _)
      rw [← hW4] at B4
      have HB4 := Lib.hid B4
      rw [← hW4]
      clear B4 hW4 c0 z3 c3
      have c0 : W4.cell? ⟨g, 0, none⟩ = some (.string s) := HB4.out.cell 0
      have c1 : W4.cell? ⟨g, 1, none⟩ = some (.int .i64 (A : Nat)) := HB4.out.cell 1
      have c2 : W4.cell? ⟨g, 2, none⟩ = some (.string u) := HB4.out.cell 2
      have z1 : W4.frozen? ⟨g, 1, none⟩ = false := HB4.out.frozen 1
      have z2 : W4.frozen? ⟨g, 2, none⟩ = false := HB4.out.frozen 2
      go_wp2_with fail
      go_end0
      refine ⟨rfl, ⟨?_, hcl.2, hs⟩, (HK4.out.set 1 _).set 2 _⟩
      rw [HCA.out.1, HCA.out.2, HT.out]
      exact blk2 (blk1 HB4.out _) _
end Go.Proofs.YtobanldeicclmaaGreatDoor
namespace Go.Proofs.YtobanldeicclmaaGreatDoor
open Go.RowKit Vtx
attribute [local go_sem ↓] Go.wp_at_zero Go.wp_at_succ
/-- what read hands back -/
def RdRet (w : World) (s : ByteArray) (r : Res) (e : Ending) (w' : World) : Prop := match r with
  | .ok es [] => ∃ x cs, es = [x] ∧ e = .returned (.tuple #[.agg cs.toArray, .int .i64 0, .int .i64 0]) ∧ ExIn w' (fun b => w.heap.size ≤ b) w'.heap.size x cs ∧ Below w.heap.size w w'
  | .ok _ (t :: _) => e = .returned (.tuple #[.agg #[.int .i64 0, .int .i64 0, .string ⟨#[]⟩, .int .i64 0, .int .i64 0, .string ⟨#[]⟩, .slice none 0 0, .slice none 0 0], .int .i64 (t.at_ : Nat), .int .i64 10]) ∧ Below w.heap.size w w'
  | .err k => e = .returned (.tuple #[.agg #[.int .i64 0, .int .i64 0, .string ⟨#[]⟩, .int .i64 0, .int .i64 0, .string ⟨#[]⟩, .slice none 0 0, .slice none 0 0], .int .i64 (k : Nat), .int .i64 10]) ∧ Below w.heap.size w w'
set_option maxHeartbeats 4000000 in
set_option maxRecDepth 100000 in
theorem readW_any (s : ByteArray) (w : World) (hs : s.size ≤ 4000) (htab : Tab w) (hm : Mx w) : Calls Tryz.prog 11 #[.string s] w fun e w' => RdRet w s (Pz s.data.toList.length .or [] (wordsOf s.data.toList 0)) e w' := by
  have hmf : ∀ (fn : Fn) (first cap : Array Value) (w : World), (Instr.makeFunc fn first cap).run Tryz.prog w = .ok (.func fn first cap) w := fun _ _ _ _ => rfl
  have HTM := Lib.hid (And.intro htab hm)
  obtain ⟨r, hr⟩ : ∃ r, Pz s.data.toList.length .or [] (wordsOf s.data.toList 0) = r := ⟨_, rfl⟩
  rw [hr]
  have HR := Lib.hid hr
  clear htab hm hr
  go_enter_defers Tryz.func11, Tryz.ntmps11
  go_upto_region 3 with (fail)
  obtain ⟨b1, hb1⟩ : ∃ b, w.heap.size + 1 = b := ⟨_, rfl⟩
  rw [hb1]
  obtain ⟨b2, hb2⟩ : ∃ b, b1 + 1 = b := ⟨_, rfl⟩
  rw [hb2]
  obtain ⟨g, hg⟩ : ∃ b, b2 + 1 = b := ⟨_, rfl⟩
  rw [hg]
  obtain ⟨wa, hwa⟩ : ∃ wa, wa = w.alloc (.cells #[.int .i64 0, .int .i64 0, .string ⟨#[]⟩, .int .i64 0, .int .i64 0, .string ⟨#[]⟩, .slice none 0 0, .slice none 0 0] 27 (0, 0)) := ⟨_, rfl⟩
  obtain ⟨wb, hwb⟩ : ∃ wb, wb = wa.alloc (.cells #[.int .i64 0] 3 (0, 0)) := ⟨_, rfl⟩
  obtain ⟨wc, hwc⟩ : ∃ wc, wc = wb.alloc (.cells #[.int .i64 0] 28 (0, 0)) := ⟨_, rfl⟩
  obtain ⟨W, hW⟩ : ∃ W, W = wc.alloc (.cells #[.string s, .int .i64 0, .string ⟨#[]⟩, .bool false] 65 (0, 0)) := ⟨_, rfl⟩
  have ha1 : wa.heap.size = b1 := by rw [hwa, ← hb1]; simp
  have ha2 : wb.heap.size = b2 := by rw [hwb, ← hb2, ← ha1]; simp
  have ha3 : wc.heap.size = g := by rw [hwc, ← hg, ← ha2]; simp
  have BA0 : Blk wa w.heap.size 27 #[.int .i64 0, .int .i64 0, .string ⟨#[]⟩, .int .i64 0, .int .i64 0, .string ⟨#[]⟩, .slice none 0 0, .slice none 0 0] := by rw [hwa]; exact Blk.new w _ _
  have BA1 : Blk wb b1 3 #[.int .i64 0] := by rw [hwb, ← ha1]; exact Blk.new wa _ _
  have BA2 : Blk wc b2 28 #[.int .i64 0] := by rw [hwc, ← ha2]; exact Blk.new wb _ _
  have BG : Blk W g 65 #[.string s, .int .i64 ((0 : Nat) : Int), .string ⟨#[]⟩, .bool false] := by rw [hW, ← ha3]; exact Blk.new wc _ _
  have hab : Below wa.heap.size wa wb := by rw [hwb]; exact (Below.refl _ _).alloc (Nat.le_refl _) _
  have hbc : Below wb.heap.size wb wc := by rw [hwc]; exact (Below.refl _ _).alloc (Nat.le_refl _) _
  have hcW : Below wc.heap.size wc W := by rw [hW]; exact (Below.refl _ _).alloc (Nat.le_refl _) _
  have hwa' : Below w.heap.size w wa := by rw [hwa]; exact (Below.refl _ _).alloc (Nat.le_refl _) _
  have hbW : Below w.heap.size w W := ((hwa'.trans (hab.mono hwa'.size)).trans (hbc.mono (Nat.le_trans hwa'.size hab.size))).trans (hcW.mono (Nat.le_trans hwa'.size (Nat.le_trans hab.size hbc.size)))
  have HB0 := Lib.hid (((BA0.below hab BA0.lt).below hbc (BA0.below hab BA0.lt).lt).below hcW ((BA0.below hab BA0.lt).below hbc (BA0.below hab BA0.lt).lt).lt)
  have HB1 := Lib.hid ((BA1.below hbc BA1.lt).below hcW (BA1.below hbc BA1.lt).lt)
  have HB2 := Lib.hid (BA2.below hcW BA2.lt)
  have HBG := Lib.hid BG
  have HMW := Lib.hid (show TM W g from ⟨w, HTM.out.1, HTM.out.2, by omega, hbW⟩)
  rw [← hwa, ← hwb, ← hwc, ← hW]
  clear hwa hwb hwc hW BA0 BA1 BA2 BG hab hbc hcW hwa' ha1 ha2 ha3
  have hn01 : w.heap.size ≠ b1 := by omega
  have hn02 : w.heap.size ≠ b2 := by omega
  have hn12 : b1 ≠ b2 := by omega
  have HNX := Lib.hid (show Calls Tryz.prog 30 #[.pointer (some ⟨g, 0, none⟩)] W fun e w' => e = .returned (.tuple #[]) ∧ PaAt w' g s 0 ∧ Kp g W w' from next_raw g s 0 ⟨#[]⟩ false W HBG.out (Nat.zero_le _) hs)
  go_wp2_with (go_at_call 30; (with_reducible refine HNX.out.mono ?_); rintro e w1 ⟨rfl, hp1, hk1⟩)
  have HP1 := Lib.hid hp1
  have HK1 := Lib.hid hk1
  have HC := or_any s (wordsOf s.data.toList 0) g 0 w1 HP1.out (HMW.out.kp hk1) rfl
  rw [HR.out] at HC
  refine HC.mono ?_
  clear HC hp1 hk1 HNX
  cases r with
  | err k =>
    rintro e w2 ⟨rfl, hk2⟩
    have hk := HK1.out.trans hk2
    have HSt := Lib.hid (show St w2 w.heap.size b1 b2 #[.int .i64 0, .int .i64 0, .string ⟨#[]⟩, .int .i64 0, .int .i64 0, .string ⟨#[]⟩, .slice none 0 0, .slice none 0 0] (.int .i64 0) (.int .i64 0) w2 from ⟨HB0.out.kp hk (by omega), HB1.out.kp hk (by omega), HB2.out.kp hk (by omega), rfl, rfl, rfl, Nat.le_refl _, fun _ _ _ _ _ => rfl⟩)
    have HBW := Lib.hid (hbW.trans (hk.below (by omega) hbW.size))
    go_wp2_with fail
    refine leaves_cons (f := 29) (args := #[.pointer (some ⟨w.heap.size, 0, none⟩), .pointer (some ⟨b1, 0, none⟩), .pointer (some ⟨b2, 0, none⟩)]) (by simp) (by simp [go_sem]) ?_
    refine (catch_any w2 w.heap.size b1 b2 k hn01 hn02 hn12 (.int .i64 0) (.int .i64 0) (.string ⟨#[]⟩) (.int .i64 0) (.int .i64 0) (.string ⟨#[]⟩) (.slice none 0 0) (.slice none 0 0) (.int .i64 0) (.int .i64 0) [] HSt.out).mono ?_
    rintro e u' w3 ⟨rfl, rfl, hst⟩
    have HS3 := Lib.hid hst
    have C0 := hst.c0
    have C1 := hst.c1
    have C2 := hst.c2
    have ec0 : w3.cell? ⟨w.heap.size, 0, none⟩ = some (.int .i64 0) := C0.cell 0
    have ec1 : w3.cell? ⟨w.heap.size, 1, none⟩ = some (.int .i64 0) := C0.cell 1
    have ec2 : w3.cell? ⟨w.heap.size, 2, none⟩ = some (.string ⟨#[]⟩) := C0.cell 2
    have ec3 : w3.cell? ⟨w.heap.size, 3, none⟩ = some (.int .i64 0) := C0.cell 3
    have ec4 : w3.cell? ⟨w.heap.size, 4, none⟩ = some (.int .i64 0) := C0.cell 4
    have ec5 : w3.cell? ⟨w.heap.size, 5, none⟩ = some (.string ⟨#[]⟩) := C0.cell 5
    have ec6 : w3.cell? ⟨w.heap.size, 6, none⟩ = some (.slice none 0 0) := C0.cell 6
    have ec7 : w3.cell? ⟨w.heap.size, 7, none⟩ = some (.slice none 0 0) := C0.cell 7
    have ec8 : w3.cell? ⟨b1, 0, none⟩ = some (.int .i64 (k : Nat)) := C1.cell 0
    have ec9 : w3.cell? ⟨b2, 0, none⟩ = some (.int .i64 10) := C2.cell 0
    have HB3 := Lib.hid (show Below w.heap.size w w3 from HBW.out.trans (show Below w.heap.size w2 w3 from ⟨hst.os, hst.tape, hst.output, hst.size, fun k' hk' => hst.far k' (Nat.lt_of_lt_of_le hk' HBW.out.size) (by omega) (by omega) (by omega)⟩))
    clear hst C0 C1 C2
    refine ⟨.tuple #[.agg #[.int .i64 0, .int .i64 0, .string ⟨#[]⟩, .int .i64 0, .int .i64 0, .string ⟨#[]⟩, .slice none 0 0, .slice none 0 0], .int .i64 (k : Nat), .int .i64 10], by simp [results, Tryz.results11, go_sem, ec0, ec1, ec2, ec3, ec4, ec5, ec6, ec7, ec8, ec9], rfl, HB3.out⟩
  | ok es l1 =>
    rintro e w2 ⟨x, i1, cs2, rfl, rfl, rfl, hx2, hp2, hk2⟩
    have HX2 := Lib.hid hx2
    obtain ⟨hn2, hs2, hl2, ha2, hxx2, hrr2, hii2⟩ := hx2
    rename_i A1 c1 A2 c2 csi2
    clear hxx2 hrr2 hii2 hn2 hs2 hl2 ha2
    have exa2 : (exCells x A1 c1 A2 c2).toArray = #[.int .i64 x.k, .int .i64 x.op, .string x.nm, .int .i64 x.v.k, .int .i64 x.v.n, .string x.v.s, .slice A1 x.v.l.length c1, .slice A2 x.ar.length c2] := rfl
    rw [exa2]
    clear exa2
    have hk := HK1.out.trans hk2
    have HP2 := Lib.hid hp2
    have HBb0 := Lib.hid (HB0.out.kp hk (by omega))
    have HBb1 := Lib.hid (HB1.out.kp hk (by omega))
    have HBb2 := Lib.hid (HB2.out.kp hk (by omega))
    have HBW := Lib.hid (hbW.trans (hk.below (by omega) hbW.size))
    have hszW : w.heap.size ≤ W.heap.size := hbW.size
    have hsz1 : W.heap.size ≤ w1.heap.size := HK1.out.size
    have hgw : g < w1.heap.size := HP1.out.b.lt
    have B0 := HBb0.out
    clear hk hp2 hk2 hbW
    have rc0 : w2.cell? ⟨w.heap.size, 0, none⟩ = some (.int .i64 0) := B0.cell 0
    have rz0 : w2.frozen? ⟨w.heap.size, 0, none⟩ = false := B0.frozen 0
    have rc1 : w2.cell? ⟨w.heap.size, 1, none⟩ = some (.int .i64 0) := B0.cell 1
    have rz1 : w2.frozen? ⟨w.heap.size, 1, none⟩ = false := B0.frozen 1
    have rc2 : w2.cell? ⟨w.heap.size, 2, none⟩ = some (.string ⟨#[]⟩) := B0.cell 2
    have rz2 : w2.frozen? ⟨w.heap.size, 2, none⟩ = false := B0.frozen 2
    have rc3 : w2.cell? ⟨w.heap.size, 3, none⟩ = some (.int .i64 0) := B0.cell 3
    have rz3 : w2.frozen? ⟨w.heap.size, 3, none⟩ = false := B0.frozen 3
    have rc4 : w2.cell? ⟨w.heap.size, 4, none⟩ = some (.int .i64 0) := B0.cell 4
    have rz4 : w2.frozen? ⟨w.heap.size, 4, none⟩ = false := B0.frozen 4
    have rc5 : w2.cell? ⟨w.heap.size, 5, none⟩ = some (.string ⟨#[]⟩) := B0.cell 5
    have rz5 : w2.frozen? ⟨w.heap.size, 5, none⟩ = false := B0.frozen 5
    have rc6 : w2.cell? ⟨w.heap.size, 6, none⟩ = some (.slice none 0 0) := B0.cell 6
    have rz6 : w2.frozen? ⟨w.heap.size, 6, none⟩ = false := B0.frozen 6
    have rc7 : w2.cell? ⟨w.heap.size, 7, none⟩ = some (.slice none 0 0) := B0.cell 7
    have rz7 : w2.frozen? ⟨w.heap.size, 7, none⟩ = false := B0.frozen 7
    go_upto_region 5 with (fail)
    obtain ⟨W2, hW2⟩ : ∃ W2, W2 = set8 w2 w.heap.size (.int .i64 x.k) (.int .i64 x.op) (.string x.nm) (.int .i64 x.v.k) (.int .i64 x.v.n) (.string x.v.s) (.slice A1 x.v.l.length c1) (.slice A2 x.ar.length c2) := ⟨_, rfl⟩
    have HPW2 := Lib.hid (show PaAt W2 g s i1 by rw [hW2]; exact HP2.out.kp (set8_far _ _ _ _ _ _ _ _ _ _ g (by omega)))
    have HSt := Lib.hid (show St w2 w.heap.size b1 b2 #[.int .i64 x.k, .int .i64 x.op, .string x.nm, .int .i64 x.v.k, .int .i64 x.v.n, .string x.v.s, .slice A1 x.v.l.length c1, .slice A2 x.ar.length c2] (.int .i64 0) (.int .i64 0) W2 by
      rw [hW2]
      exact St.set0 (show St w2 w.heap.size b1 b2 #[.int .i64 0, .int .i64 0, .string ⟨#[]⟩, .int .i64 0, .int .i64 0, .string ⟨#[]⟩, .slice none 0 0, .slice none 0 0] (.int .i64 0) (.int .i64 0) w2 from ⟨HBb0.out, HBb1.out, HBb2.out, rfl, rfl, rfl, Nat.le_refl _, fun _ _ _ _ _ => rfl⟩) hn01 hn02 (.int .i64 x.k) (.int .i64 x.op) (.string x.nm) (.int .i64 x.v.k) (.int .i64 x.v.n) (.string x.v.s) (.slice A1 x.v.l.length c1) (.slice A2 x.ar.length c2))
    have HXW := Lib.hid (show ExIn W2 (fun b => w1.heap.size ≤ b) W2.heap.size x (exCells x A1 c1 A2 c2) by rw [hW2]; exact set8_in HX2.out (fun k hk => by omega) _ _ _ _ _ _ _ _)
    dsimp only [set8] at hW2
    rw [← hW2]
    clear hW2 rc0 rc1 rc2 rc3 rc4 rc5 rc6 rc7  B0
    cases ht : tokAt s.data.toList i1 with
    | none =>
      have hw0 := tok_none ht
      have HW0 := Lib.hid hw0
      have hc2 : W2.cell? ⟨g, 2, none⟩ = some (.string ⟨#[]⟩) := by
        have h := HPW2.out.b.cell 2
        rw [show curTx s i1 = [] from by unfold curTx; rw [ht]] at h
        exact h
      have B0 := HSt.out.c0
      have B1 := HSt.out.c1
      have B2 := HSt.out.c2
      have qc0 : W2.cell? ⟨w.heap.size, 0, none⟩ = some (.int .i64 x.k) := B0.cell 0
      have qz0 : W2.frozen? ⟨w.heap.size, 0, none⟩ = false := B0.frozen 0
      have qc1 : W2.cell? ⟨w.heap.size, 1, none⟩ = some (.int .i64 x.op) := B0.cell 1
      have qz1 : W2.frozen? ⟨w.heap.size, 1, none⟩ = false := B0.frozen 1
      have qc2 : W2.cell? ⟨w.heap.size, 2, none⟩ = some (.string x.nm) := B0.cell 2
      have qz2 : W2.frozen? ⟨w.heap.size, 2, none⟩ = false := B0.frozen 2
      have qc3 : W2.cell? ⟨w.heap.size, 3, none⟩ = some (.int .i64 x.v.k) := B0.cell 3
      have qz3 : W2.frozen? ⟨w.heap.size, 3, none⟩ = false := B0.frozen 3
      have qc4 : W2.cell? ⟨w.heap.size, 4, none⟩ = some (.int .i64 x.v.n) := B0.cell 4
      have qz4 : W2.frozen? ⟨w.heap.size, 4, none⟩ = false := B0.frozen 4
      have qc5 : W2.cell? ⟨w.heap.size, 5, none⟩ = some (.string x.v.s) := B0.cell 5
      have qz5 : W2.frozen? ⟨w.heap.size, 5, none⟩ = false := B0.frozen 5
      have qc6 : W2.cell? ⟨w.heap.size, 6, none⟩ = some (.slice A1 x.v.l.length c1) := B0.cell 6
      have qz6 : W2.frozen? ⟨w.heap.size, 6, none⟩ = false := B0.frozen 6
      have qc7 : W2.cell? ⟨w.heap.size, 7, none⟩ = some (.slice A2 x.ar.length c2) := B0.cell 7
      have qz7 : W2.frozen? ⟨w.heap.size, 7, none⟩ = false := B0.frozen 7
      have xc1 : W2.cell? ⟨b1, 0, none⟩ = some (.int .i64 0) := B1.cell 0
      have xz1 : W2.frozen? ⟨b1, 0, none⟩ = false := B1.frozen 0
      have xc2 : W2.cell? ⟨b2, 0, none⟩ = some (.int .i64 0) := B2.cell 0
      have xz2 : W2.frozen? ⟨b2, 0, none⟩ = false := B2.frozen 0
      clear ht hw0
      go_wp2_with fail
      refine leaves_cons (f := 29) (args := #[.pointer (some ⟨w.heap.size, 0, none⟩), .pointer (some ⟨b1, 0, none⟩), .pointer (some ⟨b2, 0, none⟩)]) (by simp) (by simp [go_sem]) ?_
      refine (idle_any _ _ _ _).mono ?_
      rintro e u' w3 ⟨rfl, rfl, rfl⟩
      obtain ⟨W9, hW9⟩ : ∃ W9, W9 = ((set8 W2 w.heap.size (.int .i64 x.k) (.int .i64 x.op) (.string x.nm) (.int .i64 x.v.k) (.int .i64 x.v.n) (.string x.v.s) (.slice A1 x.v.l.length c1) (.slice A2 x.ar.length c2)).setCell ⟨b1, 0, none⟩ (.int .i64 0)).setCell ⟨b2, 0, none⟩ (.int .i64 0) := ⟨_, rfl⟩
      have HS9 := Lib.hid (show St W2 w.heap.size b1 b2 #[.int .i64 x.k, .int .i64 x.op, .string x.nm, .int .i64 x.v.k, .int .i64 x.v.n, .string x.v.s, .slice A1 x.v.l.length c1, .slice A2 x.ar.length c2] (.int .i64 0) (.int .i64 0) W9 by
        rw [hW9]
        exact ((St.set0 (show St W2 w.heap.size b1 b2 #[.int .i64 x.k, .int .i64 x.op, .string x.nm, .int .i64 x.v.k, .int .i64 x.v.n, .string x.v.s, .slice A1 x.v.l.length c1, .slice A2 x.ar.length c2] (.int .i64 0) (.int .i64 0) W2 from ⟨HSt.out.c0, HSt.out.c1, HSt.out.c2, rfl, rfl, rfl, Nat.le_refl _, fun _ _ _ _ _ => rfl⟩) hn01 hn02 (.int .i64 x.k) (.int .i64 x.op) (.string x.nm) (.int .i64 x.v.k) (.int .i64 x.v.n) (.string x.v.s) (.slice A1 x.v.l.length c1) (.slice A2 x.ar.length c2)).set1 hn01 hn12 (.int .i64 0)).set2 hn02 hn12 (.int .i64 0))
      dsimp only [set8] at hW9
      rw [← hW9]
      clear hW9 qc0 qc1 qc2 qc3 qc4 qc5 qc6 qc7 xc1 xz1 xc2 xz2 B0 B1 B2
      have C0 := HS9.out.c0
      have C1 := HS9.out.c1
      have C2 := HS9.out.c2
      have ec0 : W9.cell? ⟨w.heap.size, 0, none⟩ = some (.int .i64 x.k) := C0.cell 0
      have ec1 : W9.cell? ⟨w.heap.size, 1, none⟩ = some (.int .i64 x.op) := C0.cell 1
      have ec2 : W9.cell? ⟨w.heap.size, 2, none⟩ = some (.string x.nm) := C0.cell 2
      have ec3 : W9.cell? ⟨w.heap.size, 3, none⟩ = some (.int .i64 x.v.k) := C0.cell 3
      have ec4 : W9.cell? ⟨w.heap.size, 4, none⟩ = some (.int .i64 x.v.n) := C0.cell 4
      have ec5 : W9.cell? ⟨w.heap.size, 5, none⟩ = some (.string x.v.s) := C0.cell 5
      have ec6 : W9.cell? ⟨w.heap.size, 6, none⟩ = some (.slice A1 x.v.l.length c1) := C0.cell 6
      have ec7 : W9.cell? ⟨w.heap.size, 7, none⟩ = some (.slice A2 x.ar.length c2) := C0.cell 7
      have ec8 : W9.cell? ⟨b1, 0, none⟩ = some (.int .i64 0) := C1.cell 0
      have ec9 : W9.cell? ⟨b2, 0, none⟩ = some (.int .i64 0) := C2.cell 0
      have hszw2 : w.heap.size ≤ w2.heap.size := HBW.out.size
      have hszW2 : w2.heap.size ≤ W2.heap.size := HSt.out.size
      have HB9 := Lib.hid ((HBW.out.trans (HSt.out.toBelow (B := w.heap.size) hszw2 (Nat.le_refl _) (by omega) (by omega))).trans (HS9.out.toBelow (B := w.heap.size) (by omega) (Nat.le_refl _) (by omega) (by omega)))
      have HX9 := Lib.hid (((HXW.out.keep (w' := W9) ⟨HS9.out.size, fun k hk hl => HS9.out.far k hl (by omega) (by omega) (by omega)⟩).up HS9.out.size).imp (q := fun b => w.heap.size ≤ b) (fun k hk _ => by omega))
      clear C0 C1 C2
      refine ⟨.tuple #[.agg #[.int .i64 x.k, .int .i64 x.op, .string x.nm, .int .i64 x.v.k, .int .i64 x.v.n, .string x.v.s, .slice A1 x.v.l.length c1, .slice A2 x.ar.length c2], .int .i64 0, .int .i64 0], by simp [results, Tryz.results11, go_sem, ec0, ec1, ec2, ec3, ec4, ec5, ec6, ec7, ec8, ec9], ?_⟩
      show RdRet w s (.ok [x] (wordsOf s.data.toList i1)) _ _
      rw [HW0.out]
      exact ⟨x, exCells x A1 c1 A2 c2, rfl, rfl, HX9.out, HB9.out⟩
    | some t =>
      obtain ⟨ea, et, -⟩ := cur_of ht
      have hword : wordsOf s.data.toList i1 = t :: wordsOf s.data.toList (t.at_ + t.tx.length) := by rw [words_eq, ht]
      have HWD := Lib.hid hword
      have HEA := Lib.hid ea
      obtain ⟨v, hv⟩ : ∃ v, tb t.tx = v := ⟨_, rfl⟩
      have hc2 : W2.cell? ⟨g, 2, none⟩ = some (.string v) := by
        have h := HPW2.out.b.cell 2
        rw [et, hv] at h
        exact h
      have hem : v.toList.isEmpty = false := by
        have hpos := (tok_in ht).2.2.1
        have hsz : 0 < v.size := by rw [← hv, tb_size]; exact hpos
        cases h : v.toList.isEmpty with
        | false => rfl
        | true =>
          have h1 : v.toList = [] := List.isEmpty_iff.1 h
          have h2 : (v.toList == (⟨#[]⟩ : ByteArray).toList) = true := by rw [h1]; simp
          have h3 : (v.toList == (⟨#[]⟩ : ByteArray).toList) = false := strEq_false (fun e => by rw [e] at hsz; exact absurd hsz (by decide))
          rw [h3] at h2; cases h2
      have HWR := Lib.hid (wrong_any g s i1 W2 HPW2.out)
      rw [ea] at HWR
      have HSt2 := Lib.hid (show St W2 w.heap.size b1 b2 #[.int .i64 x.k, .int .i64 x.op, .string x.nm, .int .i64 x.v.k, .int .i64 x.v.n, .string x.v.s, .slice A1 x.v.l.length c1, .slice A2 x.ar.length c2] (.int .i64 0) (.int .i64 0) W2 from ⟨HSt.out.c0, HSt.out.c1, HSt.out.c2, rfl, rfl, rfl, Nat.le_refl _, fun _ _ _ _ _ => rfl⟩)
      clear ea et hword hv ht
      go_wp2_with (go_at_call 32; (with_reducible refine HWR.out.mono ?_); rintro e w4 ⟨rfl, rfl⟩)
      refine leaves_cons (f := 29) (args := #[.pointer (some ⟨w.heap.size, 0, none⟩), .pointer (some ⟨b1, 0, none⟩), .pointer (some ⟨b2, 0, none⟩)]) (by simp) (by simp [go_sem]) ?_
      refine (catch_any W2 w.heap.size b1 b2 t.at_ hn01 hn02 hn12 (.int .i64 x.k) (.int .i64 x.op) (.string x.nm) (.int .i64 x.v.k) (.int .i64 x.v.n) (.string x.v.s) (.slice A1 x.v.l.length c1) (.slice A2 x.ar.length c2) (.int .i64 0) (.int .i64 0) [] HSt2.out).mono ?_
      rintro e u' w3 ⟨rfl, rfl, hst⟩
      have C0 := hst.c0
      have C1 := hst.c1
      have C2 := hst.c2
      have ec0 : w3.cell? ⟨w.heap.size, 0, none⟩ = some (.int .i64 0) := C0.cell 0
      have ec1 : w3.cell? ⟨w.heap.size, 1, none⟩ = some (.int .i64 0) := C0.cell 1
      have ec2 : w3.cell? ⟨w.heap.size, 2, none⟩ = some (.string ⟨#[]⟩) := C0.cell 2
      have ec3 : w3.cell? ⟨w.heap.size, 3, none⟩ = some (.int .i64 0) := C0.cell 3
      have ec4 : w3.cell? ⟨w.heap.size, 4, none⟩ = some (.int .i64 0) := C0.cell 4
      have ec5 : w3.cell? ⟨w.heap.size, 5, none⟩ = some (.string ⟨#[]⟩) := C0.cell 5
      have ec6 : w3.cell? ⟨w.heap.size, 6, none⟩ = some (.slice none 0 0) := C0.cell 6
      have ec7 : w3.cell? ⟨w.heap.size, 7, none⟩ = some (.slice none 0 0) := C0.cell 7
      have ec8 : w3.cell? ⟨b1, 0, none⟩ = some (.int .i64 (t.at_ : Nat)) := C1.cell 0
      have ec9 : w3.cell? ⟨b2, 0, none⟩ = some (.int .i64 10) := C2.cell 0
      have hszw2 : w.heap.size ≤ w2.heap.size := HBW.out.size
      have hszW2 : w2.heap.size ≤ W2.heap.size := HSt.out.size
      have HB3 := Lib.hid ((HBW.out.trans (HSt.out.toBelow (B := w.heap.size) hszw2 (Nat.le_refl _) (by omega) (by omega))).trans (hst.toBelow (B := w.heap.size) (by omega) (Nat.le_refl _) (by omega) (by omega)))
      clear hst C0 C1 C2
      refine ⟨.tuple #[.agg #[.int .i64 0, .int .i64 0, .string ⟨#[]⟩, .int .i64 0, .int .i64 0, .string ⟨#[]⟩, .slice none 0 0, .slice none 0 0], .int .i64 (t.at_ : Nat), .int .i64 10], by simp [results, Tryz.results11, go_sem, ec0, ec1, ec2, ec3, ec4, ec5, ec6, ec7, ec8, ec9], ?_⟩
      show RdRet w s (.ok [x] (wordsOf s.data.toList i1)) _ _
      rw [HWD.out]
      exact ⟨rfl, HB3.out⟩
end Go.Proofs.YtobanldeicclmaaGreatDoor
