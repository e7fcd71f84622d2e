/- Lemmas for the claim: walks and plain laws. -/
import Derived.Test.YtobanldeicclmaaGreatDoorZ36
import Derived.Recover
import Derived.Defers
import Derived.Laws.Pointers
import Derived.Test.YtobanldeicclmaaGreatDoorZ14
import Derived.Deep.RegionHeld3
import Derived.IntWalk
set_option maxHeartbeats 4000000
set_option maxRecDepth 100000
namespace Go.Proofs.YtobanldeicclmaaGreatDoor
open Go.RowKit Vtx
attribute [local go_sem ↓] Go.wp_at_zero Go.wp_at_succ
structure St (w0 : World) (b0 b1 b2 : Nat) (a0 : Array Value) (x1 x2 : Value) (w : World) : Prop where
 c0 : af w b0 27 a0
 c1 : af w b1 3 #[x1]
 c2 : af w b2 28 #[x2]
 os : w.os = w0.os
 tape : w.tape = w0.tape
 output : w.output = w0.output
 size : w0.heap.size ≤ w.heap.size
 far : ∀ k, k < w0.heap.size → k ≠ b0 → k ≠ b1 → k ≠ b2 → w.heap[k]? = w0.heap[k]?
theorem St.set0 {w0 w : World} {b0 b1 b2 : Nat} {u0 u1 u2 u3 u4 u5 u6 u7 x1 x2 : Value} (h : St w0 b0 b1 b2 #[u0, u1, u2, u3, u4, u5, u6, u7] x1 x2 w) (h1 : b0 ≠ b1) (h2 : b0 ≠ b2) (v0 v1 v2 v3 v4 v5 v6 v7 : Value) : St w0 b0 b1 b2 #[v0, v1, v2, v3, v4, v5, v6, v7] x1 x2 (dU w b0 v0 v1 v2 v3 v4 v5 v6 v7) := by
 have far : ∀ k, k ≠ b0 → (dU w b0 v0 v1 v2 v3 v4 v5 v6 v7).heap[k]? = w.heap[k]? := fun k hk => dD _ _ _ _ _ _ _ _ _ _ k hk
 have f1 : ∀ (w' : World) (i : Nat) (v : Value), (w'.setCell ⟨b0, i, none⟩ v).os = w'.os := fun _ _ _ => rfl
 have f2 : ∀ (w' : World) (i : Nat) (v : Value), (w'.setCell ⟨b0, i, none⟩ v).tape = w'.tape := fun _ _ _ => rfl
 have f3 : ∀ (w' : World) (i : Nat) (v : Value), (w'.setCell ⟨b0, i, none⟩ v).output = w'.output := fun _ _ _ => rfl
 exact ⟨iy h.c0 v0 v1 v2 v3 v4 v5 v6 v7, by (try unfold ZB); unfold af; rw [far _ (fun e => h1 e.symm)]; exact h.c1, by (try unfold ZB); unfold af; rw [far _ (fun e => h2 e.symm)]; exact h.c2, by simp only [dU, f1]; exact h.os, by simp only [dU, f2]; exact h.tape, by simp only [dU, f3]; exact h.output, by rw [df]; exact h.size, fun k hl hk0 hk1 hk2 => by rw [far k hk0]; exact h.far k hl hk0 hk1 hk2⟩
theorem St.set1 {w0 w : World} {b0 b1 b2 : Nat} {a0 : Array Value} {x1 x2 : Value} (h : St w0 b0 b1 b2 a0 x1 x2 w) (h1 : b0 ≠ b1) (h2 : b1 ≠ b2) (v : Value) : St w0 b0 b1 b2 a0 v x2 (w.setCell ⟨b1, 0, none⟩ v) := by
 have far : ∀ k, k ≠ b1 → (w.setCell ⟨b1, 0, none⟩ v).heap[k]? = w.heap[k]? := fun k hk => Below.heap_setCell w ⟨b1, 0, none⟩ v k hk
 exact ⟨by (try unfold ZB); unfold af; rw [far _ h1]; exact h.c0, by simpa using h.c1.kE 0 v, by (try unfold ZB); unfold af; rw [far _ (fun e => h2 e.symm)]; exact h.c2, h.os, h.tape, h.output, by simp [World.setCell]; exact h.size, fun k hl hk0 hk1 hk2 => by rw [far k hk1]; exact h.far k hl hk0 hk1 hk2⟩
theorem St.set2 {w0 w : World} {b0 b1 b2 : Nat} {a0 : Array Value} {x1 x2 : Value} (h : St w0 b0 b1 b2 a0 x1 x2 w) (h1 : b0 ≠ b2) (h2 : b1 ≠ b2) (v : Value) : St w0 b0 b1 b2 a0 x1 v (w.setCell ⟨b2, 0, none⟩ v) := by
 have far : ∀ k, k ≠ b2 → (w.setCell ⟨b2, 0, none⟩ v).heap[k]? = w.heap[k]? := fun k hk => Below.heap_setCell w ⟨b2, 0, none⟩ v k hk
 exact ⟨by (try unfold ZB); unfold af; rw [far _ h1]; exact h.c0, by (try unfold ZB); unfold af; rw [far _ h2]; exact h.c1, by simpa using h.c2.kE 0 v, h.os, h.tape, h.output, by simp [World.setCell]; exact h.size, fun k hl hk0 hk1 hk2 => by rw [far k hk2]; exact h.far k hl hk0 hk1 hk2⟩
theorem St.below {w0 w w' : World} {b0 b1 b2 : Nat} {a0 : Array Value} {x1 x2 : Value} (h : St w0 b0 b1 b2 a0 x1 x2 w) (hb : Below w.heap.size w w') : St w0 b0 b1 b2 a0 x1 x2 w' :=
 ⟨h.c0.below hb h.c0.lt, h.c1.below hb h.c1.lt, h.c2.below hb h.c2.lt, hb.os.trans h.os, hb.tape.trans h.tape, hb.output.trans h.output, Nat.le_trans h.size hb.size, fun k hl hk0 hk1 hk2 => (hb.block k (Nat.lt_of_lt_of_le hl h.size)).trans (h.far k hl hk0 hk1 hk2)⟩
theorem St.toBelow {w0 w : World} {b0 b1 b2 B : Nat} {a0 : Array Value} {x1 x2 : Value} (h : St w0 b0 b1 b2 a0 x1 x2 w) (hB : B ≤ w0.heap.size) (h0 : B ≤ b0) (h1 : B ≤ b1) (h2 : B ≤ b2) : Below B w0 w :=
 ⟨h.os, h.tape, h.output, h.size, fun k hk => h.far k (by omega) (by omega) (by omega) (by omega)⟩
theorem FW (w : World) (b0 b1 b2 k : Nat) (h01 : b0 ≠ b1) (h02 : b0 ≠ b2) (h12 : b1 ≠ b2) (u0 u1 u2 u3 u4 u5 u6 u7 x1 x2 : Value) (older : List PanicEntry) (h : St w b0 b1 b2 #[u0, u1, u2, u3, u4, u5, u6, u7] x1 x2 w) :
  CallsD Tryz.prog 29 #[.pointer (some ⟨b0, 0, none⟩), .pointer (some ⟨b1, 0, none⟩), .pointer (some ⟨b2, 0, none⟩)] (.panicking ({ v := .iface 61 (.agg #[.int .i64 (k : Nat)]), recovered := false } :: older)) w fun e u' w' =>
   e = .returned (.tuple #[]) ∧ u' = .panicking ({ v := .iface 61 (.agg #[.int .i64 (k : Nat)]), recovered := true } :: older) ∧ St w b0 b1 b2 #[.int .i64 0, .int .i64 0, .string ⟨#[]⟩, .int .i64 0, .int .i64 0, .string ⟨#[]⟩, .slice none 0 0, .slice none 0 0] (.int .i64 (k : Nat)) (.int .i64 10) w' := by
 have hta : ∀ (v : Value) (W : World), (Instr.typeAssert (.iface 61 v) 20 61 true).run Tryz.prog W = .ok (.tuple #[v, .bool true]) W := fun _ _ => by kernel_rfl
 have HS := qh h
 clear h
 refine callsD_of_wpS Tryz.func29 rfl fun c₀ cs hu => ?_
 apply wpS_seq
 apply wpS_region
 simp [wpOpsS, go_sem, recoverD, hu, Tryz.ntmps29, Exit.thenS]
 refine wpS_of_wp ?_
 simp only [show (Array.replicate 17 undef : Array Value) = #[undef, undef, undef, undef, undef, undef, undef, undef, undef, undef, undef, undef, undef, undef, undef, undef, undef] from rfl, List.setIfInBounds_toArray, List.set_cons_zero, List.set_cons_succ, List.append_toArray, List.cons_append, List.nil_append]
 have B0 := HS.out.c0
 have B1 := HS.out.c1
 have B2 := HS.out.c2
 have hn0 : w.heap.size ≠ b0 := by have := B0.lt; omega
 have hn1 : w.heap.size ≠ b1 := by have := B1.lt; omega
 have hn2 : w.heap.size ≠ b2 := by have := B2.lt; omega
 go_upto_region 5 with (fail)
 obtain ⟨W, hW⟩ := au (w.alloc (.cells #[.int .i64 (k : Nat)] 61 (0, 0)))
 have ny := qh (show St w b0 b1 b2 #[u0, u1, u2, u3, u4, u5, u6, u7] x1 x2 W by rw [hW]; exact HS.out.below ((Below.refl _ _).alloc (Nat.le_refl _) _))
 have BS : af W w.heap.size 61 #[.int .i64 (k : Nat)] := by rw [hW]; exact af.new w _ _
 have sc0 : W.cell? ⟨w.heap.size, 0, none⟩ = some (.int .i64 (k : Nat)) := BS.cell 0
 rw [← hW]
 clear hW B0 B1 B2
 have B0 := ny.out.c0
 have B1 := ny.out.c1
 have B2 := ny.out.c2
 obtain ⟨aQ, eX, aS, eY, aT, fD, aU, fE, aY, jR, aZ, jS, bu, jT, bz, jU⟩ := af.z8 B0
 have TN : W.cell? ⟨b1, 0, none⟩ = some x1 := B1.cell 0
 have xz1 : W.frozen? ⟨b1, 0, none⟩ = false := B1.frozen 0
 have TP : W.cell? ⟨b2, 0, none⟩ = some x2 := B2.cell 0
 have xz2 : W.frozen? ⟨b2, 0, none⟩ = false := B2.frozen 0
 go_region
 have Dc := qh ((((ny.out.set0 h01 h02 (.int .i64 0) (.int .i64 0) (.string ⟨#[]⟩) (.int .i64 0) (.int .i64 0) (.string ⟨#[]⟩) (.slice none 0 0) (.slice none 0 0)).set1 h01 h12 (.int .i64 (k : Nat))).set2 h02 h12 (.int .i64 10)).below (Below.refl _ _).drew)
 go_wp2_with fail
 exact ⟨rfl, _, rfl, .tuple #[], by simp [results, Tryz.results29, go_sem], rfl, rfl, Dc.out⟩
theorem U4 (p0 p1 p2 : Addr) (w : World) :
  CallsD Tryz.prog 29 #[.pointer (some p0), .pointer (some p1), .pointer (some p2)] .returning w fun e u' w' => e = .returned (.tuple #[]) ∧ u' = .returning ∧ w' = w := by
 refine callsD_of_wpS Tryz.func29 rfl fun c₀ cs hu => ?_
 apply wpS_seq
 apply wpS_region
 simp [wpOpsS, go_sem, recoverD, hu, Tryz.ntmps29, Exit.thenS]
 refine wpS_of_wp ?_
 simp only [show (Array.replicate 17 undef : Array Value) = #[undef, undef, undef, undef, undef, undef, undef, undef, undef, undef, undef, undef, undef, undef, undef, undef, undef] from rfl, List.setIfInBounds_toArray, List.set_cons_zero, List.set_cons_succ, List.append_toArray, List.cons_append, List.nil_append]
 go_wp2_with fail
 cases c₀
 simp_all [bodyPostS, results, Tryz.results29]
end Go.Proofs.YtobanldeicclmaaGreatDoor
namespace Go.Proofs.YtobanldeicclmaaGreatDoor
open Go.RowKit Vtx
theorem U5 (g : Nat) (s : ByteArray) (A : Nat) (u : ByteArray) (d0 : Bool) (w : World) (hb : af w g 65 #[.string s, .int .i64 (A : Nat), .string u, .bool d0]) (hE0 : A + u.size ≤ s.size) (hs : s.size ≤ 4000) :
  Calls Tryz.prog 30 #[.pointer (some ⟨g, 0, none⟩)] w fun e w' => e = .returned (.tuple #[]) ∧ aP w' g s (A + u.size) ∧ Kp g w w' := by
 have HB := qh hb
 obtain ⟨E, hE⟩ := ae (A + u.size)
 rw [hE] at hE0 ⊢
 have hcl : E ≤ E ∧ E ≤ s.size := ⟨Nat.le_refl _, hE0⟩
 obtain ⟨J, hJ⟩ := au (E + aK aA (s.data.toList.drop E))
 have acF : J ≤ s.size := by
  have h1 := qp aA (s.data.toList.drop E)
  rw [List.length_drop, ak] at h1
  omega
 obtain ⟨T, hT⟩ := ae (gq s E)
 have HJ := qh hJ
 have HT := qh hT
 have c0 : w.cell? ⟨g, 0, none⟩ = some (.string s) := HB.out.cell 0
 have c1 : w.cell? ⟨g, 1, none⟩ = some (.int .i64 (A : Nat)) := HB.out.cell 1
 have c2 : w.cell? ⟨g, 2, none⟩ = some (.string u) := HB.out.cell 2
 have hEi : ((A : Nat) : Int) + (u.size : Nat) = (E : Nat) := by omega
 have hEw : IntKind.i64.wrap (((A : Nat) : Int) + (u.size : Nat)) = (E : Nat) := by rw [hEi]; exact IntWalk.i64_in _ (by omega)
 clear hJ hT hE hb hE0
 go_enter Tryz.func30, Tryz.ntmps30
 go_upto_region 0 with (fail)
 go_quiet (fail)
 obtain ⟨W, hW⟩ := au (w.drewN nq)
 have V6 := qh (show Kp g w W by rw [hW]; exact NY (iR g w) nq)
 have lu := qh (show af W g 65 #[.string s, .int .i64 (A : Nat), .string u, .bool d0] by rw [hW]; exact HB.out.drewN nq)
 rw [← hW]
 clear c0 c1 c2 hW hEi hEw
 have c0 : W.cell? ⟨g, 0, none⟩ = some (.string s) := lu.out.cell 0
 have z3 : W.frozen? ⟨g, 3, none⟩ = false := lu.out.frozen 3
 have c3 : W.cell? ⟨g, 3, none⟩ = some (.bool d0) := lu.out.cell 3
 go_wp2_with fail
 go_loop [3] (fun x => ∃ n : Nat, E ≤ n ∧ n ≤ s.size ∧ x = .int .i64 n ∧ Hid (J = n + aK aA (s.data.toList.drop n))) (fun x => s.size - (intOf x).toNat)
 case atStart => exact ⟨E, Nat.le_refl _, hcl.2, rfl, HJ⟩
 case round =>
  obtain ⟨n, hEn, hn, rfl, HR⟩ := hrel
  by_cases hlt : n < s.size
  ·
   have fO := qh hlt
   by_cases h32 : s[n].toNat = 32
   ·
    have HG := qh (iY hlt (show aA s[n] = true from decide_eq_true ((toNat_eq s[n] 32 (by decide)).2 h32)) HR.out)
    have b1 : ((s[n].toNat : Int) == 32) = true := by simp; omega
    clear h32
    go_wp2_with fail
    go_round
    case rel => exact ⟨n + 1, by omega, fO.out, by go_num, HG⟩
    case measure =>
     have := fO.out
     simp [intOf]
     omega
   ·
    have Lp := jw hlt (show aA s[n] = false from decide_eq_false (fun e => h32 ((toNat_eq s[n] 32 (by decide)).1 e))) HR.out
    have b1 : ((s[n].toNat : Int) == 32) = false := by simp; omega
    obtain ⟨hcA, TD, TE⟩ := Jj HJ.out (by rw [Lp]; exact hlt)
    subst Lp
    have vK := qh (HT.out.symm.trans TE)
    have TF := qh (And.intro hcA TD)
    clear h32 hcA TD TE
    go_upto_region 4 with (fail)
    go_cut [3] (fun x wc => x = .int .i64 (J : Nat) ∧ wc = W.setCell ⟨g, 3, none⟩ (.bool T))
    case first =>
     by_cases V7 : J = E
     ·
      subst V7
      have hbe : (((J : Nat) : Int) == ((J : Nat) : Int)) = true := by simp
      by_cases hE0 : 0 < J
      ·
       have hi0 : J - 1 < s.size := by omega
       obtain ⟨b1, hb1⟩ := ae (bK s[J - 1])
       obtain ⟨b2, hb2⟩ := ae (bK (s[J]'hlt))
       have jf := qh (show T = (b1 && b2) by rw [vK.out, jo hi0, jo hlt, hb1, hb2, decide_eq_true hE0]; simp)
       have HW1 := qh (show Calls Tryz.prog 52 #[.int .u8 (s[J - 1].toNat : Nat)] W fun e w'' => e = .returned (.bool b1) ∧ W = w'' from by
        exact (jv s[J - 1] W).mono fun e w'' ⟨he, hw⟩ => ⟨he.trans (congrArg (fun x => Ending.returned (.bool x)) hb1), hw⟩)
       have HW2 := qh (show Calls Tryz.prog 52 #[.int .u8 ((s[J]'hlt).toNat : Nat)] W fun e w'' => e = .returned (.bool b2) ∧ W = w'' from by
        exact (jv (s[J]'hlt) W).mono fun e w'' ⟨he, hw⟩ => ⟨he.trans (congrArg (fun x => Ending.returned (.bool x)) hb2), hw⟩)
       have hE1 : ((J : Nat) : Int) - 1 = ((J - 1 : Nat) : Int) := by omega
       have aak : IntKind.i64.wrap (((J : Nat) : Int) - 1) = ((J - 1 : Nat) : Int) := by rw [hE1]; exact IntWalk.i64_in _ (by omega)
       have Yv : (0 : Int) < ((J : Nat) : Int) := by omega
       clear hb1 hb2 hE1
       cases b1
       ·
        go_wp2_with (go_at_call 52; (with_reducible refine HW1.out.mono ?_); rintro e w1 ⟨rfl, rfl⟩)
        go_meet
        exact ⟨rfl, by rw [jf.out]; rfl⟩
       ·
        cases b2
        ·
         go_wp2_with (first | (go_at_call 52; (with_reducible refine HW1.out.mono ?_); rintro e w1 ⟨rfl, rfl⟩) | (go_at_call 52; (with_reducible refine HW2.out.mono ?_); rintro e w1 ⟨rfl, rfl⟩))
         go_meet
         exact ⟨rfl, by rw [jf.out]; rfl⟩
        ·
         go_wp2_with (first | (go_at_call 52; (with_reducible refine HW1.out.mono ?_); rintro e w1 ⟨rfl, rfl⟩) | (go_at_call 52; (with_reducible refine HW2.out.mono ?_); rintro e w1 ⟨rfl, rfl⟩))
         go_meet
         exact ⟨rfl, by rw [jf.out]; rfl⟩
      ·
       have jf := qh (show T = false by rw [vK.out, decide_eq_false hE0]; simp)
       have hJ0 : ¬ (0 : Int) < ((J : Nat) : Int) := by omega
       go_wp2_with fail
       go_meet
       exact ⟨rfl, by rw [jf.out]⟩
     ·
      have jf := qh (show T = false by rw [vK.out, decide_eq_false V7]; simp)
      have hbe : (((J : Nat) : Int) == ((E : Nat) : Int)) = false := by simp; omega
      have TG : (J == E) = false := by simp; omega
      go_wp2_with fail
      go_meet
      exact ⟨rfl, by rw [jf.out]⟩
    case rest =>
    obtain ⟨rfl, rfl⟩ := hcut
    have B4 := V4 lu.out (.bool T)
    obtain ⟨W4, qH⟩ := au (W.setCell ⟨g, 3, none⟩ (.bool T))
    have iK := qh (show Kp g w W4 by rw [qH]; exact V6.out.set 3 _)
    rw [← qH] at B4
    have HB4 := qh B4
    rw [← qH]
    clear B4 qH c0 z3 c3
    have c0 : W4.cell? ⟨g, 0, none⟩ = some (.string s) := HB4.out.cell 0
    have c1 : W4.cell? ⟨g, 1, none⟩ = some (.int .i64 (A : Nat)) := HB4.out.cell 1
    have c2 : W4.cell? ⟨g, 2, none⟩ = some (.string u) := HB4.out.cell 2
    have z1 : W4.frozen? ⟨g, 1, none⟩ = false := HB4.out.frozen 1
    have z2 : W4.frozen? ⟨g, 2, none⟩ = false := HB4.out.frozen 2
    have hL := wR (s.data.toList.drop J)
    rw [List.length_drop, ak] at hL
    obtain ⟨N, hN⟩ := ae (J + aJ (s.data.toList.drop J))
    have HN := qh hN
    have hN1 : (0 : Int) ≤ ((J : Nat) : Int) := by omega
    have hN2 : ((J : Nat) : Int) ≤ ((N : Nat) : Int) := by omega
    have hN3 : ((N : Nat) : Int) ≤ ((s.size : Nat) : Int) := by omega
    have hN4 : J ≤ N := by omega
    have hN5 : N ≤ s.size := by omega
    have GG : ((J : Nat) : Int) < ((s.size : Nat) : Int) := by omega
    have HWE := qh (fun (w' : World) (hc : w'.cell? ⟨g, 0, none⟩ = some (.string s)) => (show Calls Tryz.prog 53 #[.pointer (some ⟨g, 0, none⟩), .int .i64 (J : Nat)] w' fun e w'' => e = .returned (.int .i64 (N : Nat)) ∧ w' = w'' from by
     have h := zq g s J w' hc hlt hs
     rwa [hN] at h))
    clear hL hN
    go_upto_region 7 with (fail)
    obtain ⟨W5, V8⟩ := au ((W4.setCell ⟨g, 1, none⟩ (.int .i64 (J : Nat))).setCell ⟨g, 2, none⟩ (.string ⟨#[]⟩))
    have sK := qh (show af W5 g 65 #[.string s, .int .i64 (J : Nat), .string ⟨#[]⟩, .bool T] by rw [V8]; exact Py (V5 HB4.out _) _)
    have rq := qh (show Kp g w W5 by rw [V8]; exact (iK.out.set 1 _).set 2 _)
    rw [← V8]
    clear V8 c0 c1 c2 z1 z2
    have c0 : W5.cell? ⟨g, 0, none⟩ = some (.string s) := sK.out.cell 0
    have c2 : W5.cell? ⟨g, 2, none⟩ = some (.string ⟨#[]⟩) := sK.out.cell 2
    have z2 : W5.frozen? ⟨g, 2, none⟩ = false := sK.out.frozen 2
    go_region_with (go_at_call 53; (with_reducible refine (HWE.out _ (by simpa using c0)).mono ?_); rintro e w1 ⟨rfl, rfl⟩)
    all_goals
     go_wp2_with fail
     go_end0
     refine ⟨rfl, ⟨?_, hcl.2, hs⟩, (rq.out.set 2 _).trans (Kp.of (Below.refl _ _).drew)⟩
     rw [TF.out.1, TF.out.2, HT.out, ← Lm, HN.out]
     exact (Py sK.out _).drew
  ·
   have Lp := kK hlt HR.out
   obtain ⟨hcA, TD, TE⟩ := Jk HJ.out (by rw [Lp]; exact hlt)
   have hns : n = s.size := by omega
   subst Lp
   have wU := qh (HT.out.symm.trans TE)
   have TF := qh (And.intro (hcA.trans hns.symm) TD)
   have V9 := qh hns
   have GG : ¬ ((J : Nat) : Int) < ((s.size : Nat) : Int) := by omega
   clear hcA TD TE hns
   go_upto_region 4 with (fail)
   go_cut [3] (fun x wc => x = .int .i64 (J : Nat) ∧ wc = W.setCell ⟨g, 3, none⟩ (.bool T))
   case first =>
    by_cases V7 : J = E
    ·
     subst V7
     have hbe : (((J : Nat) : Int) == ((J : Nat) : Int)) = true := by simp
     by_cases hE0 : 0 < J
     ·
      have Yv : (0 : Int) < ((J : Nat) : Int) := by omega
      go_wp2_with fail
      go_meet
      exact ⟨rfl, by rw [wU.out]⟩
     ·
      have hJ0 : ¬ (0 : Int) < ((J : Nat) : Int) := by omega
      go_wp2_with fail
      go_meet
      exact ⟨rfl, by rw [wU.out]⟩
    ·
     have hbe : (((J : Nat) : Int) == ((E : Nat) : Int)) = false := by simp; omega
     have TG : (J == E) = false := by simp; omega
     go_wp2_with fail
     go_meet
     exact ⟨rfl, by rw [wU.out]⟩
   case rest =>
   obtain ⟨rfl, rfl⟩ := hcut
   have B4 := V4 lu.out (.bool T)
   obtain ⟨W4, qH⟩ := au (W.setCell ⟨g, 3, none⟩ (.bool T))
   have iK := qh (show Kp g w W4 by rw [qH]; exact V6.out.set 3 _)
   rw [← qH] at B4
   have HB4 := qh B4
   rw [← qH]
   clear B4 qH c0 z3 c3
   have c0 : W4.cell? ⟨g, 0, none⟩ = some (.string s) := HB4.out.cell 0
   have c1 : W4.cell? ⟨g, 1, none⟩ = some (.int .i64 (A : Nat)) := HB4.out.cell 1
   have c2 : W4.cell? ⟨g, 2, none⟩ = some (.string u) := HB4.out.cell 2
   have z1 : W4.frozen? ⟨g, 1, none⟩ = false := HB4.out.frozen 1
   have z2 : W4.frozen? ⟨g, 2, none⟩ = false := HB4.out.frozen 2
   go_wp2_with fail
   go_end0
   refine ⟨rfl, ⟨?_, hcl.2, hs⟩, (iK.out.set 1 _).set 2 _⟩
   rw [TF.out.1, TF.out.2, HT.out]
   exact Py (V5 HB4.out _) _
end Go.Proofs.YtobanldeicclmaaGreatDoor
namespace Go.Proofs.YtobanldeicclmaaGreatDoor
open Go.RowKit Vtx
attribute [local go_sem ↓] Go.wp_at_zero Go.wp_at_succ
def U6 (w : World) (s : ByteArray) (r : jO) (e : Ending) (w' : World) : Prop := match r with
 | .ok es [] => ∃ x cs, es = [x] ∧ e = .returned (.tuple #[.agg cs.toArray, .int .i64 0, .int .i64 0]) ∧ dK w' (fun b => w.heap.size ≤ b) w'.heap.size x cs ∧ Below w.heap.size w w'
 | .ok _ (t :: _) => e = .returned (.tuple #[.agg #[.int .i64 0, .int .i64 0, .string ⟨#[]⟩, .int .i64 0, .int .i64 0, .string ⟨#[]⟩, .slice none 0 0, .slice none 0 0], .int .i64 (t.at_ : Nat), .int .i64 10]) ∧ Below w.heap.size w w'
 | .err k => e = .returned (.tuple #[.agg #[.int .i64 0, .int .i64 0, .string ⟨#[]⟩, .int .i64 0, .int .i64 0, .string ⟨#[]⟩, .slice none 0 0, .slice none 0 0], .int .i64 (k : Nat), .int .i64 10]) ∧ Below w.heap.size w w'
theorem QN (s : ByteArray) (w : World) (hs : s.size ≤ 4000) (htab : Tab w) (hm : Mx w) : Calls Tryz.prog 11 #[.string s] w fun e w' => U6 w s (Pz s.data.toList.length .or [] (wordsOf s.data.toList 0)) e w' := by
 have hmf : ∀ (fn : Fn) (first cap : Array Value) (w : World), (Instr.makeFunc fn first cap).run Tryz.prog w = .ok (.func fn first cap) w := fun _ _ _ _ => rfl
 have DJ := qh (And.intro htab hm)
 obtain ⟨r, hr⟩ := ae (Pz s.data.toList.length .or [] (wordsOf s.data.toList 0))
 rw [hr]
 have HR := qh hr
 clear htab hm hr
 go_enter_defers Tryz.func11, Tryz.ntmps11
 go_upto_region 3 with (fail)
 obtain ⟨b1, hb1⟩ := ae (w.heap.size + 1)
 rw [hb1]
 obtain ⟨b2, hb2⟩ := ae (b1 + 1)
 rw [hb2]
 obtain ⟨g, hg⟩ := ae (b2 + 1)
 rw [hg]
 obtain ⟨wa, hwa⟩ := au (w.alloc (.cells #[.int .i64 0, .int .i64 0, .string ⟨#[]⟩, .int .i64 0, .int .i64 0, .string ⟨#[]⟩, .slice none 0 0, .slice none 0 0] 27 (0, 0)))
 obtain ⟨wb, hwb⟩ := au (wa.alloc (.cells #[.int .i64 0] 3 (0, 0)))
 obtain ⟨wc, hwc⟩ := au (wb.alloc (.cells #[.int .i64 0] 28 (0, 0)))
 obtain ⟨W, hW⟩ := au (wc.alloc (.cells #[.string s, .int .i64 0, .string ⟨#[]⟩, .bool false] 65 (0, 0)))
 have ha1 : wa.heap.size = b1 := by rw [hwa, ← hb1]; simp
 have ha2 : wb.heap.size = b2 := by rw [hwb, ← hb2, ← ha1]; simp
 have XI : wc.heap.size = g := by rw [hwc, ← hg, ← ha2]; simp
 have Xn : ZB wa w.heap.size := by rw [hwa]; exact af.new w _ _
 have BA1 : af wb b1 3 #[.int .i64 0] := by rw [hwb, ← ha1]; exact af.new wa _ _
 have ZQ : af wc b2 28 #[.int .i64 0] := by rw [hwc, ← ha2]; exact af.new wb _ _
 have BG : af W g 65 #[.string s, .int .i64 ((0 : Nat) : Int), .string ⟨#[]⟩, .bool false] := by rw [hW, ← XI]; exact af.new wc _ _
 have hab : Below wa.heap.size wa wb := by rw [hwb]; exact (Below.refl _ _).alloc (Nat.le_refl _) _
 have hbc : Below wb.heap.size wb wc := by rw [hwc]; exact (Below.refl _ _).alloc (Nat.le_refl _) _
 have hcW : Below wc.heap.size wc W := by rw [hW]; exact (Below.refl _ _).alloc (Nat.le_refl _) _
 have U7 : Below w.heap.size w wa := by rw [hwa]; exact (Below.refl _ _).alloc (Nat.le_refl _) _
 have hbW : Below w.heap.size w W := ((U7.trans (hab.mono U7.size)).trans (hbc.mono (Nat.le_trans U7.size hab.size))).trans (hcW.mono (Nat.le_trans U7.size (Nat.le_trans hab.size hbc.size)))
 have HB0 := qh (((Xn.below hab Xn.lt).below hbc (Xn.below hab Xn.lt).lt).below hcW ((Xn.below hab Xn.lt).below hbc (Xn.below hab Xn.lt).lt).lt)
 have HB1 := qh ((BA1.below hbc BA1.lt).below hcW (BA1.below hbc BA1.lt).lt)
 have HB2 := qh (ZQ.below hcW ZQ.lt)
 have HBG := qh BG
 have oZ := qh (show TM W g from ⟨w, DJ.out.1, DJ.out.2, by omega, hbW⟩)
 rw [← hwa, ← hwb, ← hwc, ← hW]
 clear hwa hwb hwc hW Xn BA1 ZQ BG hab hbc hcW U7 ha1 ha2 XI
 have U8 : w.heap.size ≠ b1 := by omega
 have U9 : w.heap.size ≠ b2 := by omega
 have Xo : b1 ≠ b2 := by omega
 have x9 := qh (show Calls Tryz.prog 30 #[.pointer (some ⟨g, 0, none⟩)] W fun e w' => e = .returned (.tuple #[]) ∧ aP w' g s 0 ∧ Kp g W w' from U5 g s 0 ⟨#[]⟩ false W HBG.out (Nat.zero_le _) hs)
 go_wp2_with (go_at_call 30; (with_reducible refine x9.out.mono ?_); rintro e w1 ⟨rfl, hp1, hk1⟩)
 have Ih := qh hp1
 have mW := qh hk1
 have HC := Zw s (wordsOf s.data.toList 0) g 0 w1 Ih.out (oZ.out.kp hk1) rfl
 rw [HR.out] at HC
 refine HC.mono ?_
 clear HC hp1 hk1 x9
 cases r with
 | err k =>
  rintro e w2 ⟨rfl, hk2⟩
  have hk := mW.out.trans hk2
  have Kt := qh (show St w2 w.heap.size b1 b2 #[.int .i64 0, .int .i64 0, .string ⟨#[]⟩, .int .i64 0, .int .i64 0, .string ⟨#[]⟩, .slice none 0 0, .slice none 0 0] (.int .i64 0) (.int .i64 0) w2 from ⟨HB0.out.kp hk (by omega), HB1.out.kp hk (by omega), HB2.out.kp hk (by omega), rfl, rfl, rfl, Nat.le_refl _, fun _ _ _ _ _ => rfl⟩)
  have lu := qh (hbW.trans (hk.below (by omega) hbW.size))
  go_wp2_with fail
  refine leaves_cons (f := 29) (args := #[.pointer (some ⟨w.heap.size, 0, none⟩), .pointer (some ⟨b1, 0, none⟩), .pointer (some ⟨b2, 0, none⟩)]) (by simp) (by simp [go_sem]) ?_
  refine (FW w2 w.heap.size b1 b2 k U8 U9 Xo (.int .i64 0) (.int .i64 0) (.string ⟨#[]⟩) (.int .i64 0) (.int .i64 0) (.string ⟨#[]⟩) (.slice none 0 0) (.slice none 0 0) (.int .i64 0) (.int .i64 0) [] Kt.out).mono ?_
  rintro e u' w3 ⟨rfl, rfl, hst⟩
  have HS3 := qh hst
  have C0 := hst.c0
  have C1 := hst.c1
  have C2 := hst.c2
  obtain ⟨Qs, Qu, Qv, Qw, Qx, Qy, Qz, QA⟩ := af.c8 C0
  have ec8 : w3.cell? ⟨b1, 0, none⟩ = some (.int .i64 (k : Nat)) := C1.cell 0
  have ec9 : w3.cell? ⟨b2, 0, none⟩ = some (.int .i64 10) := C2.cell 0
  have HB3 := qh (show Below w.heap.size w w3 from lu.out.trans (show Below w.heap.size w2 w3 from ⟨hst.os, hst.tape, hst.output, hst.size, fun k' hk' => hst.far k' (Nat.lt_of_lt_of_le hk' lu.out.size) (by omega) (by omega) (by omega)⟩))
  clear hst C0 C1 C2
  refine ⟨.tuple #[.agg #[.int .i64 0, .int .i64 0, .string ⟨#[]⟩, .int .i64 0, .int .i64 0, .string ⟨#[]⟩, .slice none 0 0, .slice none 0 0], .int .i64 (k : Nat), .int .i64 10], by simp [results, Tryz.results11, go_sem, Qs, Qu, Qv, Qw, Qx, Qy, Qz, QA, ec8, ec9], rfl, HB3.out⟩
 | ok es l1 =>
  rintro e w2 ⟨x, i1, cs2, rfl, rfl, rfl, hx2, hp2, hk2⟩
  have Ii := qh hx2
  obtain ⟨hn2, hs2, hl2, ha2, Zu, Zv, hii2⟩ := hx2
  rename_i A1 c1 A2 c2 aeR
  clear Zu Zv hii2 hn2 hs2 hl2 ha2
  have U3 : (ai x A1 c1 A2 c2).toArray = #[.int .i64 x.k, .int .i64 x.op, .string x.nm, .int .i64 x.v.k, .int .i64 x.v.n, .string x.v.s, .slice A1 x.v.l.length c1, .slice A2 x.ar.length c2] := rfl
  rw [U3]
  clear U3
  have hk := mW.out.trans hk2
  have HP2 := qh hp2
  have abN := qh (HB0.out.kp hk (by omega))
  have aeT := qh (HB1.out.kp hk (by omega))
  have aeU := qh (HB2.out.kp hk (by omega))
  have lu := qh (hbW.trans (hk.below (by omega) hbW.size))
  have hszW : w.heap.size ≤ W.heap.size := hbW.size
  have hsz1 : W.heap.size ≤ w1.heap.size := mW.out.size
  have hgw : g < w1.heap.size := Ih.out.b.lt
  have B0 := abN.out
  clear hk hp2 hk2 hbW
  obtain ⟨aQ, eX, aS, eY, aT, fD, aU, fE, aY, jR, aZ, jS, bu, jT, bz, jU⟩ := af.z8 B0
  go_upto_region 5 with (fail)
  obtain ⟨W2, hW2⟩ := au (dU w2 w.heap.size (.int .i64 x.k) (.int .i64 x.op) (.string x.nm) (.int .i64 x.v.k) (.int .i64 x.v.n) (.string x.v.s) (.slice A1 x.v.l.length c1) (.slice A2 x.ar.length c2))
  have Zx := qh (show aP W2 g s i1 by rw [hW2]; exact HP2.out.kp (dD _ _ _ _ _ _ _ _ _ _ g (by omega)))
  have Kt := qh (show St w2 w.heap.size b1 b2 #[.int .i64 x.k, .int .i64 x.op, .string x.nm, .int .i64 x.v.k, .int .i64 x.v.n, .string x.v.s, .slice A1 x.v.l.length c1, .slice A2 x.ar.length c2] (.int .i64 0) (.int .i64 0) W2 by
   rw [hW2]
   exact St.set0 (show St w2 w.heap.size b1 b2 #[.int .i64 0, .int .i64 0, .string ⟨#[]⟩, .int .i64 0, .int .i64 0, .string ⟨#[]⟩, .slice none 0 0, .slice none 0 0] (.int .i64 0) (.int .i64 0) w2 from ⟨abN.out, aeT.out, aeU.out, rfl, rfl, rfl, Nat.le_refl _, fun _ _ _ _ _ => rfl⟩) U8 U9 (.int .i64 x.k) (.int .i64 x.op) (.string x.nm) (.int .i64 x.v.k) (.int .i64 x.v.n) (.string x.v.s) (.slice A1 x.v.l.length c1) (.slice A2 x.ar.length c2))
  have XR := qh (show dK W2 (fun b => w1.heap.size ≤ b) W2.heap.size x (ai x A1 c1 A2 c2) by rw [hW2]; exact vM Ii.out (fun k hk => by omega) _ _ _ _ _ _ _ _)
  dsimp only [dU] at hW2
  rw [← hW2]
  clear hW2 aQ aS aT aU aY aZ bu bz  B0
  cases ht : bV s.data.toList i1 with
  | none =>
   have hw0 := nY ht
   have HW0 := qh hw0
   have hc2 : W2.cell? ⟨g, 2, none⟩ = some (.string ⟨#[]⟩) := by
    have h := Zx.out.b.cell 2
    rw [show aH s i1 = [] from by unfold aH; rw [ht]] at h
    exact h
   have B0 := Kt.out.c0
   have B1 := Kt.out.c1
   have B2 := Kt.out.c2
   obtain ⟨iW, P5, qc1, P6, qc2, P7, qc3, P8, qc4, P9, qc5, Qa, qc6, Qb, N8, Qc⟩ := af.z8 B0
   have TN : W2.cell? ⟨b1, 0, none⟩ = some (.int .i64 0) := B1.cell 0
   have xz1 : W2.frozen? ⟨b1, 0, none⟩ = false := B1.frozen 0
   have TP : W2.cell? ⟨b2, 0, none⟩ = some (.int .i64 0) := B2.cell 0
   have xz2 : W2.frozen? ⟨b2, 0, none⟩ = false := B2.frozen 0
   clear ht hw0
   go_wp2_with fail
   refine leaves_cons (f := 29) (args := #[.pointer (some ⟨w.heap.size, 0, none⟩), .pointer (some ⟨b1, 0, none⟩), .pointer (some ⟨b2, 0, none⟩)]) (by simp) (by simp [go_sem]) ?_
   refine (U4 _ _ _ _).mono ?_
   rintro e u' w3 ⟨rfl, rfl, rfl⟩
   obtain ⟨W9, dI⟩ := au (((dU W2 w.heap.size (.int .i64 x.k) (.int .i64 x.op) (.string x.nm) (.int .i64 x.v.k) (.int .i64 x.v.n) (.string x.v.s) (.slice A1 x.v.l.length c1) (.slice A2 x.ar.length c2)).setCell ⟨b1, 0, none⟩ (.int .i64 0)).setCell ⟨b2, 0, none⟩ (.int .i64 0))
   have Dc := qh (show St W2 w.heap.size b1 b2 #[.int .i64 x.k, .int .i64 x.op, .string x.nm, .int .i64 x.v.k, .int .i64 x.v.n, .string x.v.s, .slice A1 x.v.l.length c1, .slice A2 x.ar.length c2] (.int .i64 0) (.int .i64 0) W9 by
    rw [dI]
    exact ((St.set0 (show St W2 w.heap.size b1 b2 #[.int .i64 x.k, .int .i64 x.op, .string x.nm, .int .i64 x.v.k, .int .i64 x.v.n, .string x.v.s, .slice A1 x.v.l.length c1, .slice A2 x.ar.length c2] (.int .i64 0) (.int .i64 0) W2 from ⟨Kt.out.c0, Kt.out.c1, Kt.out.c2, rfl, rfl, rfl, Nat.le_refl _, fun _ _ _ _ _ => rfl⟩) U8 U9 (.int .i64 x.k) (.int .i64 x.op) (.string x.nm) (.int .i64 x.v.k) (.int .i64 x.v.n) (.string x.v.s) (.slice A1 x.v.l.length c1) (.slice A2 x.ar.length c2)).set1 U8 Xo (.int .i64 0)).set2 U9 Xo (.int .i64 0))
   dsimp only [dU] at dI
   rw [← dI]
   clear dI iW qc1 qc2 qc3 qc4 qc5 qc6 N8 TN xz1 TP xz2 B0 B1 B2
   have C0 := Dc.out.c0
   have C1 := Dc.out.c1
   have C2 := Dc.out.c2
   obtain ⟨Qs, Qu, Qv, Qw, Qx, Qy, Qz, QA⟩ := af.c8 C0
   have ec8 : W9.cell? ⟨b1, 0, none⟩ = some (.int .i64 0) := C1.cell 0
   have ec9 : W9.cell? ⟨b2, 0, none⟩ = some (.int .i64 0) := C2.cell 0
   have Va : w.heap.size ≤ w2.heap.size := lu.out.size
   have zH : w2.heap.size ≤ W2.heap.size := Kt.out.size
   have HB9 := qh ((lu.out.trans (Kt.out.toBelow (B := w.heap.size) Va (Nat.le_refl _) (by omega) (by omega))).trans (Dc.out.toBelow (B := w.heap.size) (by omega) (Nat.le_refl _) (by omega) (by omega)))
   have HX9 := qh (((XR.out.keep (w' := W9) ⟨Dc.out.size, fun k hk hl => Dc.out.far k hl (by omega) (by omega) (by omega)⟩).up Dc.out.size).imp (q := fun b => w.heap.size ≤ b) (fun k hk _ => by omega))
   clear C0 C1 C2
   refine ⟨.tuple #[.agg #[.int .i64 x.k, .int .i64 x.op, .string x.nm, .int .i64 x.v.k, .int .i64 x.v.n, .string x.v.s, .slice A1 x.v.l.length c1, .slice A2 x.ar.length c2], .int .i64 0, .int .i64 0], by simp [results, Tryz.results11, go_sem, Qs, Qu, Qv, Qw, Qx, Qy, Qz, QA, ec8, ec9], ?_⟩
   show U6 w s (.ok [x] (wordsOf s.data.toList i1)) _ _
   rw [HW0.out]
   exact ⟨x, ai x A1 c1 A2 c2, rfl, rfl, HX9.out, HB9.out⟩
  | some t =>
   obtain ⟨ea, et, -⟩ := jX ht
   have hword : wordsOf s.data.toList i1 = t :: wordsOf s.data.toList (t.at_ + t.tx.length) := by rw [eQ, ht]
   have TJ := qh hword
   have HEA := qh ea
   obtain ⟨v, hv⟩ := ae (tb t.tx)
   have hc2 : W2.cell? ⟨g, 2, none⟩ = some (.string v) := by
    have h := Zx.out.b.cell 2
    rw [et, hv] at h
    exact h
   have hem : v.toList.isEmpty = false := by
    have hpos := (dW ht).2.2.1
    have hsz : 0 < v.size := by rw [← hv, dm]; exact hpos
    cases h : v.toList.isEmpty with
    | false => rfl
    | true =>
     have h1 : v.toList = [] := List.isEmpty_iff.1 h
     have h2 : (v.toList == (⟨#[]⟩ : ByteArray).toList) = true := by rw [h1]; simp
     have h3 : (v.toList == (⟨#[]⟩ : ByteArray).toList) = false := bZ (fun e => by rw [e] at hsz; exact absurd hsz (by decide))
     rw [h3] at h2; cases h2
   have Ep := qh (iI g s i1 W2 Zx.out)
   rw [ea] at Ep
   have aeV := qh (show St W2 w.heap.size b1 b2 #[.int .i64 x.k, .int .i64 x.op, .string x.nm, .int .i64 x.v.k, .int .i64 x.v.n, .string x.v.s, .slice A1 x.v.l.length c1, .slice A2 x.ar.length c2] (.int .i64 0) (.int .i64 0) W2 from ⟨Kt.out.c0, Kt.out.c1, Kt.out.c2, rfl, rfl, rfl, Nat.le_refl _, fun _ _ _ _ _ => rfl⟩)
   clear ea et hword hv ht
   go_wp2_with (go_at_call 32; (with_reducible refine Ep.out.mono ?_); rintro e w4 ⟨rfl, rfl⟩)
   refine leaves_cons (f := 29) (args := #[.pointer (some ⟨w.heap.size, 0, none⟩), .pointer (some ⟨b1, 0, none⟩), .pointer (some ⟨b2, 0, none⟩)]) (by simp) (by simp [go_sem]) ?_
   refine (FW W2 w.heap.size b1 b2 t.at_ U8 U9 Xo (.int .i64 x.k) (.int .i64 x.op) (.string x.nm) (.int .i64 x.v.k) (.int .i64 x.v.n) (.string x.v.s) (.slice A1 x.v.l.length c1) (.slice A2 x.ar.length c2) (.int .i64 0) (.int .i64 0) [] aeV.out).mono ?_
   rintro e u' w3 ⟨rfl, rfl, hst⟩
   have C0 := hst.c0
   have C1 := hst.c1
   have C2 := hst.c2
   obtain ⟨Qs, Qu, Qv, Qw, Qx, Qy, Qz, QA⟩ := af.c8 C0
   have ec8 : w3.cell? ⟨b1, 0, none⟩ = some (.int .i64 (t.at_ : Nat)) := C1.cell 0
   have ec9 : w3.cell? ⟨b2, 0, none⟩ = some (.int .i64 10) := C2.cell 0
   have Va : w.heap.size ≤ w2.heap.size := lu.out.size
   have zH : w2.heap.size ≤ W2.heap.size := Kt.out.size
   have HB3 := qh ((lu.out.trans (Kt.out.toBelow (B := w.heap.size) Va (Nat.le_refl _) (by omega) (by omega))).trans (hst.toBelow (B := w.heap.size) (by omega) (Nat.le_refl _) (by omega) (by omega)))
   clear hst C0 C1 C2
   refine ⟨.tuple #[.agg #[.int .i64 0, .int .i64 0, .string ⟨#[]⟩, .int .i64 0, .int .i64 0, .string ⟨#[]⟩, .slice none 0 0, .slice none 0 0], .int .i64 (t.at_ : Nat), .int .i64 10], by simp [results, Tryz.results11, go_sem, Qs, Qu, Qv, Qw, Qx, Qy, Qz, QA, ec8, ec9], ?_⟩
   show U6 w s (.ok [x] (wordsOf s.data.toList i1)) _ _
   rw [TJ.out]
   exact ⟨rfl, HB3.out⟩
end Go.Proofs.YtobanldeicclmaaGreatDoor
