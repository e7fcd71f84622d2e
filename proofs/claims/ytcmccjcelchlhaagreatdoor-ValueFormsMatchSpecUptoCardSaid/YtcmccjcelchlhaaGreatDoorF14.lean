/- The walk of the law: CheckExpr, Print and Names of both answer alike. · Arguments opened out of their readings: expressions, scenes, texts; their bulk bounds their parts. · The laid tables of this seat: what the row's list gives, and the witness world that holds them. -/
import Derived.Test.YtcmccjcelchlhaaGreatDoorF10
import Derived.Test.YtcmccjcelchlhaaGreatDoorF13
import Derived.Deep.DrawnRows
import Derived.Test.YtcmccjcelchlhaaGreatDoorRows
import Derived.ProofKit
import Derived.SliceStrings
import Derived.ChangeSlices
import Derived.Deep.Slices
import Derived.Lib.SmallJoins
import Derived.Test.YtcmccjcelchlhaaGreatDoorCards
import Derived.Test.YtcmccjcelchlhaaGreatDoorTie
import Derived.WalkKit
import Derived.OpenShut
import Derived.Deep.DeepHandedRow
import Derived.Deep.DeepLaidRun
import Derived.Lib.LaidTab
import Derived.Stop.LaidErr
import Derived.PinnedBridge
import Derived.Shelf.Vars
namespace Go.Proofs.YtcmccjcelchlhaaGreatDoor
open Go.RowKit Go.Lib
attribute [local go_sem ↓] Go.wp_at_zero Go.wp_at_succ

theorem names_keep {w w' : World} {v : Value} {l : List (List UInt8)} (h : NamesAt w v l) (hb : Below w.heap.size w w') : NamesAt w' v l := by
  rcases h with h | ⟨ad, c, h1, h2, h3, h4⟩
  · exact .inl h
  · exact .inr ⟨ad, c, h1, h2, by have := hb.size; omega, fun j u hu => by rw [hb.cell (by rw [block_of_add]; exact h3)]; exact h4 j u hu⟩
theorem names_strs {w : World} {v : Value} {l : List (List UInt8)} (h : NamesAt w v l) : ∃ A c, v = .slice A (l.map tx).length c ∧ StrsAt w w.heap.size A (l.map tx) := by
  rcases h with ⟨rfl, rfl⟩ | ⟨ad, c, h1, h2, h3, h4⟩
  · exact ⟨none, 0, rfl, Reads.none_⟩
  · refine ⟨some ad, c, by rw [List.length_map]; exact h1, by rw [strV_len, Nat.mul_one], fun _ => ⟨ad, rfl, h3, fun j u hu => h4 j u ?_⟩⟩
    unfold strV at hu
    unfold txV
    rw [List.map_map] at hu
    exact hu
theorem equal_names (l : List (List UInt8)) (v1 v2 : Value) (w : World) (hl : l.length ≤ maxLen) (h1 : NamesAt w v1 l) (h2 : NamesAt w v2 l) : Calls Tryz.prog 13 #[v1, v2] w fun e w' => e = .returned (.bool true) ∧ Below w.heap.size w w' := by
  obtain ⟨A, c, rfl, ha⟩ := names_strs h1
  obtain ⟨A', c', rfl, hb⟩ := names_strs h2
  refine (equalStr_any A A' c c' _ _ _ _ w (by simpa using hl) (by simpa using hl) ha hb).mono ?_
  rintro e w' ⟨rfl, hw⟩
  exact ⟨by simp, hw⟩
set_option maxHeartbeats 4000000 in
set_option maxRecDepth 100000 in
theorem forms_any (e : Ex) (B : Nat) (cs : List Value) (w : World) (hx : ExAt w B e cs) (hB : B ≤ w.heap.size) (hp : e.parts ≤ 1000000) (htab : Tab w) (hm : MxS w) :
    Calls Tryz.prog 4 #[.agg cs.toArray] w fun en w' => en = .returned (.bool true) ∧ Below w.heap.size w w' := by
  have HX := Lib.hid hx
  have HTM := Lib.hid (fun w' (hb : Below w.heap.size w w') => And.intro (tabIs_below htab hb) (hm.below hb))
  have HX' := Lib.hid (fun w' (hb : Below w.heap.size w w') => HX.out.keep (hb.mono hB))
  have H1 := Lib.hid (fun w' (hb : Below w.heap.size w w') => Print_any e B cs w' (HX'.out w' hb) (Nat.le_trans hB hb.size) (by omega) (HTM.out w' hb).1 (HTM.out w' hb).2.1)
  have H2 := Lib.hid (fun w' (hb : Below w.heap.size w w') => rPrint_any e B cs w' (HX'.out w' hb) (Nat.le_trans hB hb.size) hp (HTM.out w' hb).1 (HTM.out w' hb).2)
  have H3 := Lib.hid (fun w' (hb : Below w.heap.size w w') => CheckExpr_any e B cs w' (HX'.out w' hb) (Nat.le_trans hB hb.size) (by omega))
  have H4 := Lib.hid (fun w' (hb : Below w.heap.size w w') => rCheckExpr_any e B cs w' (HX'.out w' hb) (Nat.le_trans hB hb.size) hp (HTM.out w' hb).2.2)
  have H5 := Lib.hid (fun w' (hb : Below w.heap.size w w') => Names_any e hp B cs w' (HX'.out w' hb) (Nat.le_trans hB hb.size))
  have H6 := Lib.hid (fun w' (hb : Below w.heap.size w w') => rNames_any e hp B cs w' (HX'.out w' hb) (Nat.le_trans hB hb.size))
  have HLN := Lib.hid (show (compact (sortL e.names)).length ≤ maxLen by
    have h := compact_le (sortL e.names)
    rw [sortL_len] at h
    have := names_len e
    unfold maxLen
    omega)
  have hlaw := rnames_law e
  rw [hlaw] at H6
  obtain ⟨R, hR⟩ : ∃ R, printF e = R := ⟨_, rfl⟩
  obtain ⟨r1, r2⟩ := R
  obtain ⟨f, hf⟩ : ∃ f, checkE e = f := ⟨_, rfl⟩
  obtain ⟨l, hl⟩ : ∃ l, compact (sortL e.names) = l := ⟨_, rfl⟩
  rw [hR] at H1 H2
  rw [hf] at H3 H4
  rw [hl] at H5 H6 HLN
  clear hR hf hl hlaw htab hm HX
  obtain ⟨hn, hs, hl, ha, hx, hr, hi⟩ := hx
  rename_i A1 c1 A2 c2 cs
  clear hx hr hi HX' HTM
  show Calls Tryz.prog 4 #[.agg #[.int .i64 e.k, .int .i64 e.op, .string e.nm, .int .i64 e.v.k, .int .i64 e.v.n, .string e.v.s, .slice A1 e.v.l.length c1, .slice A2 e.ar.length c2]] w _
  go_enter Tryz.func4, Tryz.ntmps4
  go_upto_region 1 with (fail)
  obtain ⟨W, hW⟩ : ∃ W, W = (w.alloc (.cells #[.int .i64 e.k, .int .i64 e.op, .string e.nm, .int .i64 e.v.k, .int .i64 e.v.n, .string e.v.s, .slice A1 e.v.l.length c1, .slice A2 e.ar.length c2] 27 (0, 0))) := ⟨_, rfl⟩
  have hbw : Below w.heap.size w W := by rw [hW]; exact ((Below.refl _ w).alloc (Nat.le_refl _) _)
  have B0 : Blk W (w.heap.size) 27 #[.int .i64 e.k, .int .i64 e.op, .string e.nm, .int .i64 e.v.k, .int .i64 e.v.n, .string e.v.s, .slice A1 e.v.l.length c1, .slice A2 e.ar.length c2] := by
    rw [hW]
    have := Blk.new w 27 #[.int .i64 e.k, .int .i64 e.op, .string e.nm, .int .i64 e.v.k, .int .i64 e.v.n, .string e.v.s, .slice A1 e.v.l.length c1, .slice A2 e.ar.length c2]
    exact this
  have hsz : W.heap.size = w.heap.size + 1 := by rw [hW]; simp
  rw [← hW]
  have ec0 : W.cell? ⟨w.heap.size, 0, none⟩ = some (.int .i64 e.k) := B0.cell 0
  have ec1 : W.cell? ⟨w.heap.size, 1, none⟩ = some (.int .i64 e.op) := B0.cell 1
  have ec2 : W.cell? ⟨w.heap.size, 2, none⟩ = some (.string e.nm) := B0.cell 2
  have ec3 : W.cell? ⟨w.heap.size, 3, none⟩ = some (.int .i64 e.v.k) := B0.cell 3
  have ec4 : W.cell? ⟨w.heap.size, 4, none⟩ = some (.int .i64 e.v.n) := B0.cell 4
  have ec5 : W.cell? ⟨w.heap.size, 5, none⟩ = some (.string e.v.s) := B0.cell 5
  have ec6 : W.cell? ⟨w.heap.size, 6, none⟩ = some (.slice A1 e.v.l.length c1) := B0.cell 6
  have ec7 : W.cell? ⟨w.heap.size, 7, none⟩ = some (.slice A2 e.ar.length c2) := B0.cell 7
  clear hW hsz
  go_wp2_with fail
  refine (H1.out W hbw).mono ?_
  rintro en W1 ⟨rfl, hb1⟩
  have hbw1 := hbw.trans (hb1.mono hbw.size)
  have B0 := B0.below hb1 B0.lt
  clear ec0 ec1 ec2 ec3 ec4 ec5 ec6 ec7 hb1
  have ec0 : W1.cell? ⟨w.heap.size, 0, none⟩ = some (.int .i64 e.k) := B0.cell 0
  have ec1 : W1.cell? ⟨w.heap.size, 1, none⟩ = some (.int .i64 e.op) := B0.cell 1
  have ec2 : W1.cell? ⟨w.heap.size, 2, none⟩ = some (.string e.nm) := B0.cell 2
  have ec3 : W1.cell? ⟨w.heap.size, 3, none⟩ = some (.int .i64 e.v.k) := B0.cell 3
  have ec4 : W1.cell? ⟨w.heap.size, 4, none⟩ = some (.int .i64 e.v.n) := B0.cell 4
  have ec5 : W1.cell? ⟨w.heap.size, 5, none⟩ = some (.string e.v.s) := B0.cell 5
  have ec6 : W1.cell? ⟨w.heap.size, 6, none⟩ = some (.slice A1 e.v.l.length c1) := B0.cell 6
  have ec7 : W1.cell? ⟨w.heap.size, 7, none⟩ = some (.slice A2 e.ar.length c2) := B0.cell 7
  go_wp2_with fail
  refine (H2.out W1 hbw1).mono ?_
  rintro en W2 ⟨rfl, hb2⟩
  have hbw2 := hbw1.trans (hb2.mono hbw1.size)
  have B0 := B0.below hb2 B0.lt
  clear ec0 ec1 ec2 ec3 ec4 ec5 ec6 ec7 hb2
  have K1 := Lib.hid (fun w' (hb : Below W2.heap.size W2 w') => (show Calls Tryz.prog 11 #[.agg #[.int .i64 e.k, .int .i64 e.op, .string e.nm, .int .i64 e.v.k, .int .i64 e.v.n, .string e.v.s, .slice A1 e.v.l.length c1, .slice A2 e.ar.length c2]] w' fun e w'' => e = .returned (.int .i64 f) ∧ Below W2.heap.size W2 w'' from (H3.out w' (hbw2.trans (hb.mono hbw2.size))).mono fun _ _ h => ⟨h.1, hb.trans (h.2.mono hb.size)⟩))
  have K2 := Lib.hid (fun w' (hb : Below W2.heap.size W2 w') => (show Calls Tryz.prog 12 #[.agg #[.int .i64 e.k, .int .i64 e.op, .string e.nm, .int .i64 e.v.k, .int .i64 e.v.n, .string e.v.s, .slice A1 e.v.l.length c1, .slice A2 e.ar.length c2]] w' fun e w'' => e = .returned (.int .i64 f) ∧ Below W2.heap.size W2 w'' from (H4.out w' (hbw2.trans (hb.mono hbw2.size))).mono fun _ _ h => ⟨h.1, hb.trans (h.2.mono hb.size)⟩))
  have K3 := Lib.hid (fun w' (hb : Below W2.heap.size W2 w') => (show Calls Tryz.prog 14 #[.agg #[.int .i64 e.k, .int .i64 e.op, .string e.nm, .int .i64 e.v.k, .int .i64 e.v.n, .string e.v.s, .slice A1 e.v.l.length c1, .slice A2 e.ar.length c2]] w' fun e w'' => ∃ v, e = .returned v ∧ NamesAt w'' v l ∧ Below W2.heap.size W2 w'' ∧ Below w'.heap.size w' w'' from (H5.out w' (hbw2.trans (hb.mono hbw2.size))).mono fun _ _ ⟨v, h1, h2, h3⟩ => ⟨v, h1, h2, hb.trans (h3.mono hb.size), h3⟩))
  have K4 := Lib.hid (fun w' (hb : Below W2.heap.size W2 w') => (show Calls Tryz.prog 15 #[.agg #[.int .i64 e.k, .int .i64 e.op, .string e.nm, .int .i64 e.v.k, .int .i64 e.v.n, .string e.v.s, .slice A1 e.v.l.length c1, .slice A2 e.ar.length c2]] w' fun e w'' => ∃ v, e = .returned v ∧ NamesAt w'' v l ∧ Below W2.heap.size W2 w'' ∧ Below w'.heap.size w' w'' from (H6.out w' (hbw2.trans (hb.mono hbw2.size))).mono fun _ _ ⟨v, h1, h2, h3⟩ => ⟨v, h1, h2, hb.trans (h3.mono hb.size), h3⟩))
  have KE := Lib.hid (fun w' (hb : Below W2.heap.size W2 w') v1 v2 (h1 : NamesAt w' v1 l) (h2 : NamesAt w' v2 l) => (show Calls Tryz.prog 13 #[v1, v2] w' fun e w'' => e = .returned (.bool true) ∧ Below W2.heap.size W2 w'' from (equal_names l v1 v2 w' HLN.out h1 h2).mono fun _ _ h => ⟨h.1, hb.trans (h.2.mono hb.size)⟩))
  have ec0 : W2.cell? ⟨w.heap.size, 0, none⟩ = some (.int .i64 e.k) := B0.cell 0
  have ec1 : W2.cell? ⟨w.heap.size, 1, none⟩ = some (.int .i64 e.op) := B0.cell 1
  have ec2 : W2.cell? ⟨w.heap.size, 2, none⟩ = some (.string e.nm) := B0.cell 2
  have ec3 : W2.cell? ⟨w.heap.size, 3, none⟩ = some (.int .i64 e.v.k) := B0.cell 3
  have ec4 : W2.cell? ⟨w.heap.size, 4, none⟩ = some (.int .i64 e.v.n) := B0.cell 4
  have ec5 : W2.cell? ⟨w.heap.size, 5, none⟩ = some (.string e.v.s) := B0.cell 5
  have ec6 : W2.cell? ⟨w.heap.size, 6, none⟩ = some (.slice A1 e.v.l.length c1) := B0.cell 6
  have ec7 : W2.cell? ⟨w.heap.size, 7, none⟩ = some (.slice A2 e.ar.length c2) := B0.cell 7
  have hq0 : Below W2.heap.size W2 W2.drew := (Below.refl _ _).drew
  have b1 : (f == f) = true := by simp
  have b2 : (r2 == r2) = true := by simp
  have b3 : ((tx r1).toList == (tx r1).toList) = true := by simp
  go_upto_region 3 with (fail)
  go_region_held3 (fun w' => w'.cell? ⟨w.heap.size, 0, none⟩ = some (.int .i64 e.k) ∧ w'.cell? ⟨w.heap.size, 1, none⟩ = some (.int .i64 e.op) ∧ w'.cell? ⟨w.heap.size, 2, none⟩ = some (.string e.nm) ∧ w'.cell? ⟨w.heap.size, 3, none⟩ = some (.int .i64 e.v.k) ∧ w'.cell? ⟨w.heap.size, 4, none⟩ = some (.int .i64 e.v.n) ∧ w'.cell? ⟨w.heap.size, 5, none⟩ = some (.string e.v.s) ∧ w'.cell? ⟨w.heap.size, 6, none⟩ = some (.slice A1 e.v.l.length c1) ∧ w'.cell? ⟨w.heap.size, 7, none⟩ = some (.slice A2 e.ar.length c2) ∧ Below W2.heap.size W2 w')
    (first | exact ⟨Below.cell_of hqE ec0, Below.cell_of hqE ec1, Below.cell_of hqE ec2, Below.cell_of hqE ec3, Below.cell_of hqE ec4, Below.cell_of hqE ec5, Below.cell_of hqE ec6, Below.cell_of hqE ec7, hqE⟩ | exact ⟨Below.cell_of hq4 ec0, Below.cell_of hq4 ec1, Below.cell_of hq4 ec2, Below.cell_of hq4 ec3, Below.cell_of hq4 ec4, Below.cell_of hq4 ec5, Below.cell_of hq4 ec6, Below.cell_of hq4 ec7, hq4⟩ | exact ⟨Below.cell_of hq3 ec0, Below.cell_of hq3 ec1, Below.cell_of hq3 ec2, Below.cell_of hq3 ec3, Below.cell_of hq3 ec4, Below.cell_of hq3 ec5, Below.cell_of hq3 ec6, Below.cell_of hq3 ec7, hq3⟩ | exact ⟨Below.cell_of hq2 ec0, Below.cell_of hq2 ec1, Below.cell_of hq2 ec2, Below.cell_of hq2 ec3, Below.cell_of hq2 ec4, Below.cell_of hq2 ec5, Below.cell_of hq2 ec6, Below.cell_of hq2 ec7, hq2⟩ | exact ⟨Below.cell_of hq1 ec0, Below.cell_of hq1 ec1, Below.cell_of hq1 ec2, Below.cell_of hq1 ec3, Below.cell_of hq1 ec4, Below.cell_of hq1 ec5, Below.cell_of hq1 ec6, Below.cell_of hq1 ec7, hq1⟩ | exact ⟨Below.cell_of hq0 ec0, Below.cell_of hq0 ec1, Below.cell_of hq0 ec2, Below.cell_of hq0 ec3, Below.cell_of hq0 ec4, Below.cell_of hq0 ec5, Below.cell_of hq0 ec6, Below.cell_of hq0 ec7, hq0⟩)
    (first | (go_at_call 11; (with_reducible refine (K1.out _ (by assumption)).mono ?_); rintro e w' ⟨rfl, hq1⟩) | (go_at_call 12; (with_reducible refine (K2.out _ (by assumption)).mono ?_); rintro e w' ⟨rfl, hq2⟩) | (go_at_call 14; (with_reducible refine (K3.out _ (by assumption)).mono ?_); rintro e w' ⟨v3, rfl, hv3, hq3, hy3⟩) | (go_at_call 15; (with_reducible refine (K4.out _ (by assumption)).mono ?_); rintro e w' ⟨v4, rfl, hv4, hq4, hy4⟩) | (go_at_call 13; (with_reducible refine (KE.out _ (by assumption) _ _ (by first | exact hv3 | exact names_keep hv3 hy4) (by first | exact hv4 | exact names_keep hv4 hy3)).mono ?_); rintro e w' ⟨rfl, hqE⟩))
  go_wp2_with fail
  go_ret
  exact ⟨ret_bool (by simp), hbw2.trans (hqE.mono hbw2.size)⟩
end Go.Proofs.YtcmccjcelchlhaaGreatDoor
namespace Go.Proofs.YtcmccjcelchlhaaGreatDoor
open Go.Deep Go.ChangeShapes Go.WideShapes Go.ChangeAt Go.RowKit Go.Joins

/-! bulk -/
theorem bulk_pos {H : Type} (d : DataW H) : 1 ≤ Rows.uptoBulk d := by
  cases d with
  | lit l => cases l <;> simp [Rows.uptoBulk]
  | nil => simp [Rows.uptoBulk]
  | ptr d => simp [Rows.uptoBulk]
  | slice a b => simp [Rows.uptoBulk]
  | agg l => simp [Rows.uptoBulk]
  | iface n d => simp [Rows.uptoBulk]
  | map l => simp [Rows.uptoBulk]
  | held v => simp [Rows.uptoBulk]
theorem bulk_sum {H : Type} : ∀ l : List (DataW H), Rows.uptoBulkAll l = (l.map Rows.uptoBulk).sum
  | [] => by simp [Rows.uptoBulkAll]
  | d :: r => by rw [Rows.uptoBulkAll, bulk_sum r]; simp
theorem bulk_len {H : Type} : ∀ l : List (DataW H), l.length ≤ Rows.uptoBulkAll l
  | [] => by simp
  | d :: r => by
    have := bulk_len r
    have := bulk_pos d
    rw [Rows.uptoBulkAll, List.length_cons]
    omega
theorem sum_le {f g : Nat → Nat} : ∀ l : List Nat, (∀ i ∈ l, f i ≤ g i) → (l.map f).sum ≤ (l.map g).sum
  | [], _ => by simp
  | i :: r, h => by
    have h1 := sum_le r (fun j hj => h j (List.mem_cons_of_mem _ hj))
    have h2 := h i (List.mem_cons_self ..)
    simp only [List.map_cons, List.sum_cons]
    omega
theorem mem_sum {α : Type} {f : α → Nat} {a : α} : ∀ {l : List α}, a ∈ l → f a ≤ (l.map f).sum
  | b :: r, h => by
    simp only [List.map_cons, List.sum_cons]
    rcases List.mem_cons.1 h with e | e
    · rw [e]; omega
    · have := mem_sum (f := f) e; omega
theorem parts2_sum : ∀ l : List Ex, (l.map fun e => 2 * e.parts).sum = 2 * partsL l
  | [] => by simp [partsL]
  | a :: r => by rw [List.map_cons, List.sum_cons, parts2_sum r, partsL]; omega
/-! rows of equal length behind one another -/
theorem flat_len {size : Nat} {f : Nat → List Value} : ∀ {n : Nat}, (∀ i, i < n → (f i).length = size) → ((List.range n).flatMap f).length = n * size
  | 0, _ => by simp
  | n + 1, h => by
    rw [List.range_succ, List.flatMap_append, List.length_append, flat_len (fun i hi => h i (by omega))]
    simp [h n (by omega), Nat.succ_mul]
theorem flat_part {size : Nat} {f : Nat → List Value} : ∀ {n : Nat}, (∀ i, i < n → (f i).length = size) → ∀ i, i < n → (((List.range n).flatMap f).drop (i * size)).take size = f i
  | n + 1, h, i, hi => by
    have hl := flat_len (fun j hj => h j (by omega)) (n := n) (f := f) (size := size)
    rw [List.range_succ, List.flatMap_append]
    simp only [List.flatMap_cons, List.flatMap_nil, List.append_nil]
    by_cases hin : i < n
    · have hle : i * size + size ≤ n * size := by rw [← Nat.succ_mul]; exact Nat.mul_le_mul_right _ hin
      rw [List.drop_append_of_le_length (by omega), List.take_append_of_le_length (by rw [List.length_drop]; omega)]
      exact flat_part (fun j hj => h j (by omega)) i hin
    · have e : i = n := by omega
      subst e
      rw [List.drop_append, hl, Nat.sub_self, List.drop_zero, List.drop_eq_nil_of_le (by omega), List.nil_append, List.take_of_length_le (by rw [h i hi]; exact Nat.le_refl _)]
theorem flat_at {size : Nat} {f : Nat → List Value} {n : Nat} (h : ∀ i, i < n → (f i).length = size) (hs : 0 < size) {j : Nat} {u : Value} (hj : ((List.range n).flatMap f)[j]? = some u) : ∃ i r, i < n ∧ r < size ∧ j = i * size + r ∧ (f i)[r]? = some u := by
  have hlt : j < n * size := by rw [← flat_len h]; exact (List.getElem?_eq_some_iff.1 hj).1
  have hi : j / size < n := by rw [Nat.div_lt_iff_lt_mul hs]; exact hlt
  refine ⟨j / size, j % size, hi, Nat.mod_lt _ hs, by rw [Nat.mul_comm]; exact (Nat.div_add_mod j size).symm, ?_⟩
  rw [← flat_part h _ hi, List.getElem?_take, if_pos (Nat.mod_lt _ hs), List.getElem?_drop, Nat.mul_comm, Nat.div_add_mod]
  exact hj
section
variable {H : Type} {enc : TypeId × Value → H} {W : World}
set_option maxHeartbeats 1000000 in
/-- a slice of structs -/
theorem open_structs {α : Type} [Inhabited α] {Pd : World → Nat → α → List Value → Prop} {μ : α → Nat} {t e : TypeId} {size fuel : Nat} {cs : List Value} {x : DataW H × List MemPlace} (ht : Tryz.prog.underlying t = some (.slice e)) (hsz : Tryz.prog.cellsOf e = size) (hpos : 0 < size)
    (hel : ∀ n cs' y, n < fuel → DataW.trod enc Tryz.prog W 0 (fun _ => true) true n e cs' = some y → ∃ a : α, Pd W W.heap.size a cs' ∧ μ a ≤ Rows.uptoBulk y.1) (h : DataW.trod enc Tryz.prog W 0 (fun _ => true) true fuel t cs = some x) :
    ∃ (A : Option Addr) (l : List α) (c : Nat), cs = [.slice A l.length c] ∧ LiesAt Pd size W W.heap.size A l ∧ l.length ≤ c ∧ (l.map μ).sum + 1 ≤ Rows.uptoBulk x.1 ∧ l.length + 1 ≤ Rows.uptoBulk x.1 := by
  rcases DataW.trod_slice ht h with ⟨rfl, rfl⟩ | ⟨a, len, cap, elems, rest, n, rfl, rfl, rfl, -, hl, hm, hlen, hel', -, -⟩
  · exact ⟨none, [], 0, rfl, ⟨by simp, [], Reads.none_, fun i hi => by cases hi⟩, by simp, by simp [Rows.uptoBulk], by simp [Rows.uptoBulk]⟩
  · obtain ⟨V, hV⟩ := choose_lt (α := α × List Value) (n := len) (p := fun i q => W.cells? 0 (a.add (i * size)) size = some q.2 ∧ Pd W W.heap.size q.1 q.2 ∧ μ q.1 ≤ Rows.uptoBulk (elems.getD i (.nil, [])).1) (fun i hi => by
      have h1 := hel' i hi
      have hi' : i < elems.length := by omega
      rw [List.getElem?_eq_getElem hi', hsz] at h1
      obtain ⟨cs', h2, h3⟩ := Option.bind_eq_some_iff.1 h1
      obtain ⟨b, h4, h5⟩ := hel n cs' _ (Nat.lt_succ_self n) h3
      exact ⟨(b, cs'), h2, h4, by rw [List.getD_eq_getElem?_getD, List.getElem?_eq_getElem hi']; exact h5⟩)
    have hlenV : ∀ i, i < len → (V i).2.length = size := fun i hi => (World.cells?_some (hV i hi).1).2.1
    have hLL : ((List.range len).map (fun i => (V i).1)).length = len := by simp
    refine ⟨some a, (List.range len).map (fun i => (V i).1), cap, by rw [hLL], ⟨by rw [hLL]; omega, (List.range len).flatMap (fun i => (V i).2), ⟨by rw [hLL]; exact flat_len hlenV, fun h0 => ?_⟩, fun i hi => ?_⟩, by rw [hLL]; exact hl, ?_, ?_⟩
    · rw [hLL] at h0
      have hc0 : ∀ i r, i < len → r < size → ∀ u, (V i).2[r]? = some u → W.cell? (a.add (i * size + r)) = some u := fun i r hi hr u hu => by
        have h1 := (World.cells?_some (hV i hi).1).2.2 r hr
        rw [add_of_add] at h1
        rw [h1, hu]
      refine ⟨a, rfl, ?_, fun j u hu => ?_⟩
      · have hz : 0 < (V 0).2.length := by rw [hlenV 0 h0]; exact hpos
        have h1 := hc0 0 0 h0 hpos _ (List.getElem?_eq_getElem hz)
        have := block_lt_of_cell h1
        rwa [block_of_add] at this
      · obtain ⟨i, r, hi, hr, rfl, hu'⟩ := flat_at hlenV hpos hu
        exact hc0 i r hi hr u hu'
    · have hi' : i < len := by rw [hLL] at hi; exact hi
      rw [flat_part hlenV i hi']
      simp only [List.getElem_map, List.getElem_range]
      exact (hV i hi').2.1
    · show _ ≤ Rows.uptoBulk (DataW.slice (elems.map (·.1)) (rest.map (·.1)))
      rw [Rows.uptoBulk, bulk_sum]
      have e1 : (elems.map (·.1)).map Rows.uptoBulk = (List.range len).map (fun i => Rows.uptoBulk (elems.getD i (.nil, [])).1) := by
        rw [List.map_map, map_by_index elems (.nil, []), hlen]
        rfl
      rw [e1, List.map_map]
      have := sum_le (f := μ ∘ fun i => (V i).1) (g := fun i => Rows.uptoBulk (elems.getD i (.nil, [])).1) (List.range len) (fun i hi => (hV i (List.mem_range.1 hi)).2.2)
      omega
    · show _ ≤ Rows.uptoBulk (DataW.slice (elems.map (·.1)) (rest.map (·.1)))
      rw [Rows.uptoBulk, hLL]
      have := bulk_len (elems.map (·.1))
      rw [List.length_map, hlen] at this
      omega
theorem strs_at {fuel : Nat} {cs : List Value} {x : DataW H × List MemPlace} (h : DataW.trod enc Tryz.prog W 0 (fun _ => true) true fuel 34 cs = some x) :
    ∃ (A : Option Addr) (l : List ByteArray) (c : Nat), cs = [.slice A l.length c] ∧ StrsAt W W.heap.size A l ∧ l.length ≤ c ∧ l.length ≤ maxLen ∧ (∀ s ∈ l, s.size ≤ maxLen) ∧ l.length + 1 ≤ Rows.uptoBulk x.1 := by
  rcases open_strings Tryz.underlying34 Tryz.underlying9 (by kernel_rfl) h with ⟨rfl, rfl⟩ | ⟨a, len, cap, ss, rfl, -, hl, hm, hlen, rfl, hc, hs⟩
  · exact ⟨none, [], 0, rfl, ⟨rfl, fun h => absurd h (by simp)⟩, by simp, by simp, by simp, by simp [Rows.uptoBulk]⟩
  · simp only [if_true] at hlen
    have e : (ss.take len).length = len := by rw [List.length_take]; omega
    refine ⟨some a, ss.take len, cap, by rw [e], ⟨by rw [strV_len]; omega, fun h0 => ?_⟩, by rw [e]; exact hl, by rw [e]; omega, fun s hs' => hs s (List.mem_of_mem_take hs'), ?_⟩
    · rw [e] at h0
      have h1 := hc 0 (by omega)
      refine ⟨a, rfl, by have := block_lt_of_cell h1; rwa [block_of_add] at this, fun j u hu => ?_⟩
      unfold strV at hu
      rw [List.getElem?_map] at hu
      rcases hk : (ss.take len)[j]? with _ | s
      · rw [hk] at hu; cases hu
      · rw [hk] at hu
        obtain ⟨hj, hs'⟩ := List.getElem?_eq_some_iff.1 hk
        have hj' : j < ss.length := by rw [e] at hj; omega
        rw [hc j hj', List.getD_eq_getElem?_getD, List.getElem?_eq_getElem hj']
        rw [List.getElem_take] at hs'
        rw [hs']
        exact hu
    · show _ ≤ Rows.uptoBulk (DataW.slice (strs (ss.take len)) (strs (ss.drop len)))
      rw [Rows.uptoBulk]
      have := bulk_len (H := H) (strs (ss.take len))
      rw [show (strs (H := H) (ss.take len)).length = (ss.take len).length by simp [strs]] at this
      omega
theorem ints_at {fuel : Nat} {cs : List Value} {x : DataW H × List MemPlace} (h : DataW.trod enc Tryz.prog W 0 (fun _ => true) true fuel 22 cs = some x) :
    ∃ (A : Option Addr) (l : List Int) (c : Nat), cs = [.slice A l.length c] ∧ Reads W W.heap.size 1 A l.length (numV .i64 l) ∧ l.length ≤ maxLen := by
  rcases open_ints Tryz.underlying22 Tryz.underlying3 (by kernel_rfl) h with ⟨rfl, -⟩ | ⟨a, len, cap, zs, rfl, -, hl, hm, hz, -, hcell, hwz⟩
  · exact ⟨none, [], 0, rfl, Reads.none_, by simp⟩
  · simp only [if_true] at hz
    have e : (zs.take len).length = len := by simp; omega
    refine ⟨some a, zs.take len, cap, by rw [e], ?_, by rw [e]; omega⟩
    rw [e]
    refine ⟨by rw [numV_len]; omega, fun h0 => ?_⟩
    have h1 := hcell 0 (by omega)
    refine ⟨a, rfl, by have := block_lt_of_cell h1; rwa [block_of_add] at this, fun j u hu => ?_⟩
    obtain ⟨hj, rfl⟩ := numV_get _ _ _ _ hu
    have hj' : j < zs.length := by rw [e] at hj; omega
    rw [hcell j hj']
    simp [List.getD, hj']
theorem int_at {fuel : Nat} {cs : List Value} {x : DataW H × List MemPlace} (h : DataW.trod enc Tryz.prog W 0 (fun _ => true) true fuel 3 cs = some x) : ∃ n, cs = [.int .i64 n] := by
  obtain ⟨n, e, -⟩ := DataW.trod_int Tryz.underlying3 h
  exact ⟨n, e⟩
theorem str_at' {fuel : Nat} {cs : List Value} {x : DataW H × List MemPlace} (h : DataW.trod enc Tryz.prog W 0 (fun _ => true) true fuel 9 cs = some x) : ∃ s : ByteArray, cs = [.string s] ∧ s.size ≤ maxLen := by
  obtain ⟨s, e, -, hs⟩ := DataW.trod_string Tryz.underlying9 h
  exact ⟨s, e, hs⟩
theorem bool_at {fuel : Nat} {cs : List Value} {x : DataW H × List MemPlace} (h : DataW.trod enc Tryz.prog W 0 (fun _ => true) true fuel 4 cs = some x) : ∃ b, cs = [.bool b] := by
  obtain ⟨b, e, -⟩ := DataW.trod_bool Tryz.underlying4 h
  exact ⟨b, e⟩
theorem list2 {α : Type} : ∀ {cs : List α}, cs.length = 2 → ∃ a b, cs = [a, b]
  | [a, b], _ => ⟨a, b, rfl⟩
theorem list3 {α : Type} : ∀ {cs : List α}, cs.length = 3 → ∃ a b c, cs = [a, b, c]
  | [a, b, c], _ => ⟨a, b, c, rfl⟩
theorem list4 {α : Type} : ∀ {cs : List α}, cs.length = 4 → ∃ a b c d, cs = [a, b, c, d]
  | [a, b, c, d], _ => ⟨a, b, c, d, rfl⟩
theorem list7 {α : Type} : ∀ {cs : List α}, cs.length = 7 → ∃ a b c d e f g, cs = [a, b, c, d, e, f, g]
  | [a, b, c, d, e, f, g], _ => ⟨a, b, c, d, e, f, g, rfl⟩
theorem list8 {α : Type} : ∀ {cs : List α}, cs.length = 8 → ∃ a b c d e f g h, cs = [a, b, c, d, e, f, g, h]
  | [a, b, c, d, e, f, g, h], _ => ⟨a, b, c, d, e, f, g, h, rfl⟩
theorem fieldsV {fuel : Nat} {cs : List Value} {x : DataW H × List MemPlace} (h : DataW.trod enc Tryz.prog W 0 (fun _ => true) true fuel 24 cs = some x) :
    ∃ y0 y1 y2 y3 n, fuel = n + 1 ∧ x.1 = .agg [y0.1, y1.1, y2.1, y3.1] ∧ cs.length = 4 ∧ DataW.trod enc Tryz.prog W 0 (fun _ => true) true n 3 ((cs.drop 0).take 1) = some y0 ∧ DataW.trod enc Tryz.prog W 0 (fun _ => true) true n 3 ((cs.drop 1).take 1) = some y1 ∧ DataW.trod enc Tryz.prog W 0 (fun _ => true) true n 9 ((cs.drop 2).take 1) = some y2 ∧ DataW.trod enc Tryz.prog W 0 (fun _ => true) true n 22 ((cs.drop 3).take 1) = some y3 := by
  obtain ⟨xs, n, hn, rfl, hl, hlen, hf⟩ := DataW.trod_struct Tryz.underlying24 h
  match xs, hlen with
  | [y0, y1, y2, y3], _ =>
    refine ⟨y0, y1, y2, y3, n, hn, rfl, hl.trans (by kernel_rfl), ?_, ?_, ?_, ?_⟩
    · have h : DataW.trod enc Tryz.prog W 0 (fun _ => true) true n 3 ((cs.drop 0).take (Tryz.prog.cellsOf 3)) = some y0 := hf 0 _ rfl
      rw [show Tryz.prog.cellsOf 3 = 1 by kernel_rfl] at h
      exact h
    · have h : DataW.trod enc Tryz.prog W 0 (fun _ => true) true n 3 ((cs.drop 1).take (Tryz.prog.cellsOf 3)) = some y1 := hf 1 _ rfl
      rw [show Tryz.prog.cellsOf 3 = 1 by kernel_rfl] at h
      exact h
    · have h : DataW.trod enc Tryz.prog W 0 (fun _ => true) true n 9 ((cs.drop 2).take (Tryz.prog.cellsOf 9)) = some y2 := hf 2 _ rfl
      rw [show Tryz.prog.cellsOf 9 = 1 by kernel_rfl] at h
      exact h
    · have h : DataW.trod enc Tryz.prog W 0 (fun _ => true) true n 22 ((cs.drop 3).take (Tryz.prog.cellsOf 22)) = some y3 := hf 3 _ rfl
      rw [show Tryz.prog.cellsOf 22 = 1 by kernel_rfl] at h
      exact h
theorem fieldsE {fuel : Nat} {cs : List Value} {x : DataW H × List MemPlace} (h : DataW.trod enc Tryz.prog W 0 (fun _ => true) true fuel 27 cs = some x) :
    ∃ y0 y1 y2 y3 y4 n, fuel = n + 1 ∧ x.1 = .agg [y0.1, y1.1, y2.1, y3.1, y4.1] ∧ cs.length = 8 ∧ DataW.trod enc Tryz.prog W 0 (fun _ => true) true n 3 ((cs.drop 0).take 1) = some y0 ∧ DataW.trod enc Tryz.prog W 0 (fun _ => true) true n 3 ((cs.drop 1).take 1) = some y1 ∧ DataW.trod enc Tryz.prog W 0 (fun _ => true) true n 9 ((cs.drop 2).take 1) = some y2 ∧ DataW.trod enc Tryz.prog W 0 (fun _ => true) true n 24 ((cs.drop 3).take 4) = some y3 ∧ DataW.trod enc Tryz.prog W 0 (fun _ => true) true n 25 ((cs.drop 7).take 1) = some y4 := by
  obtain ⟨xs, n, hn, rfl, hl, hlen, hf⟩ := DataW.trod_struct Tryz.underlying27 h
  match xs, hlen with
  | [y0, y1, y2, y3, y4], _ =>
    refine ⟨y0, y1, y2, y3, y4, n, hn, rfl, hl.trans (by kernel_rfl), ?_, ?_, ?_, ?_, ?_⟩
    · have h : DataW.trod enc Tryz.prog W 0 (fun _ => true) true n 3 ((cs.drop 0).take (Tryz.prog.cellsOf 3)) = some y0 := hf 0 _ rfl
      rw [show Tryz.prog.cellsOf 3 = 1 by kernel_rfl] at h
      exact h
    · have h : DataW.trod enc Tryz.prog W 0 (fun _ => true) true n 3 ((cs.drop 1).take (Tryz.prog.cellsOf 3)) = some y1 := hf 1 _ rfl
      rw [show Tryz.prog.cellsOf 3 = 1 by kernel_rfl] at h
      exact h
    · have h : DataW.trod enc Tryz.prog W 0 (fun _ => true) true n 9 ((cs.drop 2).take (Tryz.prog.cellsOf 9)) = some y2 := hf 2 _ rfl
      rw [show Tryz.prog.cellsOf 9 = 1 by kernel_rfl] at h
      exact h
    · have h : DataW.trod enc Tryz.prog W 0 (fun _ => true) true n 24 ((cs.drop 3).take (Tryz.prog.cellsOf 24)) = some y3 := hf 3 _ rfl
      rw [show Tryz.prog.cellsOf 24 = 4 by kernel_rfl] at h
      exact h
    · have h : DataW.trod enc Tryz.prog W 0 (fun _ => true) true n 25 ((cs.drop 7).take (Tryz.prog.cellsOf 25)) = some y4 := hf 4 _ rfl
      rw [show Tryz.prog.cellsOf 25 = 1 by kernel_rfl] at h
      exact h
theorem val_at {fuel : Nat} {cs : List Value} {x : DataW H × List MemPlace} (h : DataW.trod enc Tryz.prog W 0 (fun _ => true) true fuel 24 cs = some x) :
    ∃ (v : Val) (A : Option Addr) (c : Nat), cs = [.int .i64 v.k, .int .i64 v.n, .string v.s, .slice A v.l.length c] ∧ Reads W W.heap.size 1 A v.l.length (numV .i64 v.l) ∧ v.l.length ≤ maxLen ∧ v.s.size ≤ maxLen := by
  obtain ⟨y0, y1, y2, y3, n, -, -, hl, h0, h1, h2, h3⟩ := fieldsV h
  obtain ⟨a, b, c, d, rfl⟩ := list4 hl
  obtain ⟨k, e0⟩ := int_at h0
  obtain ⟨m, e1⟩ := int_at h1
  obtain ⟨s, e2, hs⟩ := str_at' h2
  obtain ⟨A, l, c', e3, hr, hm⟩ := ints_at h3
  simp only [List.drop_zero, List.drop_succ_cons, List.take_succ_cons, List.take_zero, List.cons.injEq, and_true] at e0 e1 e2 e3
  subst e0 e1 e2 e3
  exact ⟨⟨k, m, s, l⟩, A, c', rfl, hr, hm, hs⟩
instance : Inhabited Ex := ⟨.mk 0 0 .empty ⟨0, 0, .empty, []⟩ []⟩
/-- an expression, by induction on the depth of its reading -/
theorem expr_at : ∀ (fuel : Nat) (cs : List Value) (x : DataW H × List MemPlace), DataW.trod enc Tryz.prog W 0 (fun _ => true) true fuel 27 cs = some x → ∃ e : Ex, ExAt W W.heap.size e cs ∧ 2 * e.parts ≤ Rows.uptoBulk x.1 := by
  intro fuel
  induction fuel using Nat.strongRecOn with
  | _ fuel ih =>
    intro cs x h
    obtain ⟨y0, y1, y2, y3, y4, n, hfu, hx, hl, h0, h1, h2, h3, h4⟩ := fieldsE h
    obtain ⟨a, b, c, d, e, f, g, i, rfl⟩ := list8 hl
    obtain ⟨k, e0⟩ := int_at h0
    obtain ⟨op, e1⟩ := int_at h1
    obtain ⟨s, e2, hs⟩ := str_at' h2
    obtain ⟨v, A2, c2, e3, hr2, hl2, hs2⟩ := val_at h3
    obtain ⟨A', ar, c', e4, hL, hc, hsum, -⟩ := open_structs (α := Ex) (Pd := fun w B e cs => ExAt w B e cs) (μ := fun e => 2 * e.parts) Tryz.underlying25 (show Tryz.prog.cellsOf 27 = 8 by kernel_rfl) (by decide) (fun m cs' y hm h' => ih m (by omega) cs' y h') h4
    simp only [List.drop_zero, List.drop_succ_cons, List.take_succ_cons, List.take_zero, List.cons.injEq, and_true] at e0 e1 e2 e3 e4
    obtain ⟨e3a, e3b, e3c, e3d⟩ := e3
    subst e0 e1 e2 e3a e3b e3c e3d e4
    obtain ⟨hm, cs', hr, hi⟩ := hL
    refine ⟨.mk k op s v ar, ExAt.mk (e := .mk k op s v ar) hs hs2 hl2 hm hr2 hr hi, ?_⟩
    rw [parts_eq, hx]
    simp only [Rows.uptoBulk, Rows.uptoBulkAll]
    show 2 * (partsL ar + 1) ≤ _
    rw [parts2_sum] at hsum
    omega
end
end Go.Proofs.YtcmccjcelchlhaaGreatDoor
namespace Go.Proofs.YtcmccjcelchlhaaGreatDoor
open Go.ChangeShapes Go.WideShapes Go.ChangeAt Go.RowKit Go.Joins

theorem own : ownKnob Tryz.prog.godebug = none := by kernel_rfl
theorem laidOut : laidOutB Tryz.prog = true := by kernel_rfl
theorem below_trodAll {H : Type} {enc : TypeId × Value → H} {P : Program} {W W' : World} (hl : laidOutB P = true) (hb : Below W.heap.size W W') :
    ∀ {ts : List TypeId} {vs : List Value} {ds : List (DataW H)} {ps : List MemPlace}, (∀ t ∈ ts, P.readableRec t = true ∧ t < P.types.size) →
    DataW.TrodAll enc P W 0 (fun _ => true) true ts vs ds ps → (∀ x ∈ ps, x.block < W.heap.size) → DataW.TrodAll enc P W' 0 (fun b => decide (b < W.heap.size)) true ts vs ds ps
  | [], [], [], _, _, h, _ => h
  | _ :: _, _ :: _, _ :: _, _, hr, ⟨p, q, h1, h2, e⟩, hs =>
    ⟨p, q, Below.trod hl (hr _ (List.mem_cons.2 (Or.inl rfl))).1 (hr _ (List.mem_cons.2 (Or.inl rfl))).2 h1 hb (fun x hx => hs x (by rw [e]; exact List.mem_append_left _ hx)),
      below_trodAll hl hb (fun t ht => hr t (List.mem_cons.2 (Or.inr ht))) h2 (fun x hx => hs x (by rw [e]; exact List.mem_append_right _ hx)), e⟩
  | [], [], _ :: _, _, _, h, _ => h.elim
  | [], _ :: _, _, _, _, h, _ => by cases h
  | _ :: _, [], _, _, _, h, _ => by cases h
  | _ :: _, _ :: _, [], _, _, h, _ => h.elim
theorem law_post {H : Type} {enc : TypeId × Value → H} {f : Func} {s : ChangeSpec} {W W' : World} {args : Array Value} {ds gs : List (DataW H)} {before : List MemPlace}
    (hr : ∀ t ∈ f.params.toList, Tryz.prog.readableRec t = true ∧ t < Tryz.prog.types.size) (hrt : f.resultTypes = #[4]) (hv : s.vars = [])
    (h1 : (s.fn H (ds ++ gs)).results = [.lit (.bool true)]) (h2 : (s.fn H (ds ++ gs)).args = ds) (h3 : (s.fn H (ds ++ gs)).vars = [])
    (hW : DataW.Whole enc Tryz.prog f.params.toList s.vars false W args.toList ds gs before) (hb : Below W.heap.size W W') : s.post enc Tryz.prog f false true false false W args (.bool true) W' := by
  have hlt := hW.lt
  have hW0 := hW
  obtain ⟨p, q, hA, hV, rfl, _, _⟩ := hW
  refine ⟨ds, gs, p ++ q, [], p, [], hW0, ?_, ?_, ?_, hb.frame _, fun h => by cases h⟩
  · rw [h1, hrt]
    exact ⟨[], [], shut_bool Tryz.underlying4 true, rfl, rfl⟩
  · rw [h2]
    exact below_trodAll laidOut hb hr hA (fun x hx => by simpa using hlt x (List.mem_append_left _ hx))
  · rw [h3, hv]; rfl

def laidList : List (String × DataW Unit) := [("math/bits.deBruijn32tab", Rows.laid_math_bits_deBruijn32tab), ("math/bits.deBruijn64tab", Rows.laid_math_bits_deBruijn64tab), ("internal/strconv.uint64pow10", Rows.laid_internal_strconv_uint64pow10), ("unicode/utf8.acceptRanges", Rows.laid_unicode_utf8_acceptRanges), ("unicode.White_Space", Rows.laid_unicode_White_Space), ("strings.asciiSpace", Rows.laid_strings_asciiSpace), ("unicode/utf8.first", Rows.laid_unicode_utf8_first)]
theorem plainList : (laidList.all fun x => x.2.handleName?.isNone) = true := by kernel_rfl
theorem tab_of_g : Tryz.prog.globalNamed "internal/strconv.uint64pow10" = some 3 := by kernel_rfl
theorem tab_of_gt : (Tryz.prog.globals[3]?).map (·.type) = some 233 := by kernel_rfl
theorem tab_of_c : Tryz.prog.cellsOf 233 = 20 := by kernel_rfl
theorem tab_of_e : Tryz.prog.cellsOf 166 = 1 := by kernel_rfl
theorem tab_of_data : (Rows.laid_internal_strconv_uint64pow10 : DataW Unit) = Lib.tabData .u64 Lib.pow10Tab := by kernel_rfl
/-- what the row's list gives: the table 'internal/strconv.uint64pow10' -/
theorem tab_of {W : World} (h : laidMetH Tryz.prog laidList W) : Tab W := by
  rw [MakeChecks.laidMetH_plain _ _ _ plainList] at h
  have h3 := (laidMet.tail (laidMet.tail h))
  unfold Tab
  rw [tab_of_data] at h3
  exact Lib.tabIs_of_head tab_of_g tab_of_gt Tryz.underlying233 Tryz.underlying166 tab_of_e tab_of_c h3
theorem sp_of_g : Tryz.prog.globalNamed "strings.asciiSpace" = some 0 := by kernel_rfl
theorem sp_of_gt : (Tryz.prog.globals[0]?).map (·.type) = some 151 := by kernel_rfl
theorem sp_of_c : Tryz.prog.cellsOf 151 = 256 := by kernel_rfl
theorem sp_of_e : Tryz.prog.cellsOf 5 = 1 := by kernel_rfl
theorem sp_of_data : (Rows.laid_strings_asciiSpace : DataW Unit) = Lib.tabData .u8 Lib.asciiSpaceTab := by kernel_rfl
/-- what the row's list gives: the table 'strings.asciiSpace' -/
theorem sp_of {W : World} (h : laidMetH Tryz.prog laidList W) : Sp W := by
  rw [MakeChecks.laidMetH_plain _ _ _ plainList] at h
  have h3 := (laidMet.tail (laidMet.tail (laidMet.tail (laidMet.tail (laidMet.tail h)))))
  unfold Sp
  rw [sp_of_data] at h3
  exact Lib.tabIs_of_head sp_of_g sp_of_gt Tryz.underlying151 Tryz.underlying5 sp_of_e sp_of_c h3
/-- Go's own bound holds a number: the settled world's shape -/
theorem mx_of {W : World} (h : W.ShapedOpen Tryz.prog) : Mx W :=
  cell_of_shapedOpen_int (zero := #[.int .i64 0]) (t := 3) h (by decide +kernel) (by kernel_rfl) rfl (by kernel_rfl) (by kernel_rfl) Tryz.underlying3

/-- the cells of a datum of integers, nested -/
def flat1 : DataW Unit → List Value
  | .lit (.int k n) => [.int k n]
  | _ => []
def flat2 : DataW Unit → List Value
  | .agg l => l.flatMap flat1
  | d => flat1 d
def flat3 : DataW Unit → List Value
  | .agg l => l.flatMap flat2
  | d => flat1 d
def cellsOfD (d : DataW Unit) (o : Obj) : Obj := match o with
  | .cells _ t frozen => .cells (flat3 d).toArray t frozen
  | o => o
def ptrOf (g : Nat) (o : Obj) : Obj := match o with
  | .cells _ u frozen => .cells #[.pointer (some ⟨g, 0, none⟩)] u frozen
  | o => o
noncomputable def holdSize (os : Os) : Nat := (World.holding Tryz.prog os ⟨#[], #[], []⟩).heap.size
noncomputable def laidWorld (os : Os) : World :=
  { World.holding Tryz.prog os ⟨#[], #[], []⟩ with heap := ((((((((((World.holding Tryz.prog os ⟨#[], #[], []⟩).heap.modify 6 (cellsOfD Rows.laid_math_bits_deBruijn32tab)).modify 7 (cellsOfD Rows.laid_math_bits_deBruijn64tab)).modify 3 (cellsOfD Rows.laid_internal_strconv_uint64pow10)).modify 5 (cellsOfD Rows.laid_unicode_utf8_acceptRanges)).modify 0 (cellsOfD Rows.laid_strings_asciiSpace)).modify 4 (cellsOfD Rows.laid_unicode_utf8_first)).modify 1 (ptrOf (holdSize os + 0))).push (.cells #[.slice (some ⟨holdSize os + 1, 0, none⟩) 7 7, .slice none 0 0, .int .i64 2] 208 (0, 0))).push (.cells #[.int .u16 9, .int .u16 13, .int .u16 1, .int .u16 32, .int .u16 133, .int .u16 101, .int .u16 160, .int .u16 5760, .int .u16 5600, .int .u16 8192, .int .u16 8202, .int .u16 1, .int .u16 8232, .int .u16 8233, .int .u16 1, .int .u16 8239, .int .u16 8287, .int .u16 48, .int .u16 12288, .int .u16 12288, .int .u16 1] 211 (0, 0))) }
end Go.Proofs.YtcmccjcelchlhaaGreatDoor
