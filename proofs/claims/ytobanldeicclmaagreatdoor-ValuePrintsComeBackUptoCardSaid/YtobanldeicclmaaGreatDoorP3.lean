/- The walks of the faults of all parts of an expression, in both packages. · The walks of measure and of CheckExpr in both packages. · The walk of the law's own sameExpr: an expression in two places. · Whole numbers as limbs to the base 10^9, the lowest first: the plain mathematics of the naturals of both packages. No program in sight. · Decimal texts: the plain mathematics. No program in sight. -/
import Derived.Test.YtobanldeicclmaaGreatDoorP2
import Derived.Test.YtobanldeicclmaaGreatDoorP1
import Derived.Deep.DrawnRows
import Derived.WalkKit
import Derived.Lib.ItoaNum
namespace Go.Proofs.YtobanldeicclmaaGreatDoor
open Go.RowKit
theorem headK_cell {w : World} {B : Nat} {l : List Ex} {A' : Option Addr} {cs : List Value} (hr : Reads w B 8 A' l.length cs) (hi : ∀ i (h : i < l.length), ExAt w B l[i] ((cs.drop (i * 8)).take 8)) :
    0 < l.length → ∃ ad, A' = some ad ∧ ad.block < B ∧ w.cell? ad = some (.int .i64 (headK l)) := by
  intro h
  obtain ⟨ad, rfl, hb, hc⟩ := hr.2 h
  refine ⟨ad, rfl, hb, ?_⟩
  have h0 := hi 0 h
  obtain ⟨a, r, rfl⟩ : ∃ a r, l = a :: r := by cases l with
    | nil => simp at h
    | cons a r => exact ⟨a, r, rfl⟩
  have hcell := hc 0
  rw [show ad.add 0 = ad from rfl] at hcell
  refine hcell _ ?_
  generalize he : (cs.drop (0 * 8)).take 8 = ci at h0
  obtain ⟨-, -, -, -, -, -, -⟩ := h0
  have : ((cs.drop (0 * 8)).take 8)[0]? = some (.int .i64 (headK (a :: r))) := by rw [he]; rfl
  rw [List.getElem?_take, List.getElem?_drop] at this
  simpa using this
set_option maxHeartbeats 2000000 in
set_option maxRecDepth 100000 in
theorem partsFault_any (e : Ex) : ∀ (B : Nat) (cs : List Value) (w : World), ExAt w B e cs → B ≤ w.heap.size →
    Calls Tryz.prog 20 #[.agg cs.toArray] w fun en w' => en = .returned (.int .i64 e.fault) ∧ Below w.heap.size w w' := by
  induction e using Ex.ind with
  | h e ih =>
    rintro B cs w hx hB
    have HXA := Lib.hid hx
    obtain ⟨hn, hs, hl, ha, hx, hr, hi⟩ := hx
    rename_i A c A' c' cs
    have HR := Lib.hid (And.intro hr hi)
    have HI := Lib.hid ih
    have HA := Lib.hid ha
    have HP := Lib.hid (fun w' hb hB'  => partFault_any e.k e.op e.nm e.v e.ar.length (headK e.ar) A c A' c' B w' hn hs hl ha (hx.below hb) hB' (headK_cell (hr.below hb) (fun i h => (hi i h).keep hb)))
    unfold maxLen at ha
    clear hr hi ih hx
    obtain ⟨f, hf⟩ : ∃ f, partF e = f := ⟨_, rfl⟩
    have HF := Lib.hid hf
    have HFE := Lib.hid (fault_eq e)
    clear hf
    show Calls Tryz.prog 20 #[.agg #[.int .i64 e.k, .int .i64 e.op, .string e.nm, .int .i64 e.v.k, .int .i64 e.v.n, .string e.v.s, .slice A e.v.l.length c, .slice A' e.ar.length c']] w _
    go_enter Tryz.func20, Tryz.ntmps20
    go_wp2_with fail
    obtain ⟨W, hW⟩ : ∃ W, W = (w.alloc (.cells #[.int .i64 e.k, .int .i64 e.op, .string e.nm, .int .i64 e.v.k, .int .i64 e.v.n, .string e.v.s, .slice A e.v.l.length c, .slice A' e.ar.length c'] 27 (0, 0))) := ⟨_, rfl⟩
    have hbw : Below w.heap.size w W := by rw [hW]; exact ((Below.refl _ w).alloc (Nat.le_refl _) _)
    have B0 : Blk W (w.heap.size) 27 #[.int .i64 e.k, .int .i64 e.op, .string e.nm, .int .i64 e.v.k, .int .i64 e.v.n, .string e.v.s, .slice A e.v.l.length c, .slice A' e.ar.length c'] := by
      rw [hW]
      have := Blk.new w 27 #[.int .i64 e.k, .int .i64 e.op, .string e.nm, .int .i64 e.v.k, .int .i64 e.v.n, .string e.v.s, .slice A e.v.l.length c, .slice A' e.ar.length c']
      exact this
    have hsz : W.heap.size = w.heap.size + 1 := by rw [hW]; simp
    rw [← hW]
    clear hW hsz
    refine (HP.out W (hbw.mono hB) (Nat.le_trans hB hbw.size)).mono ?_
    rw [show partB e.k e.op e.nm e.v e.ar.length (headK e.ar) = f from HF.out]
    rintro en w1 ⟨rfl, hb1⟩
    have B0 := B0.below hb1 B0.lt
    have hbw := hbw.trans (hb1.mono hbw.size)
    clear hb1 HP
    have rc0 : w1.cell? ⟨w.heap.size, 0, none⟩ = some (.int .i64 e.k) := B0.cell 0
    have rc1 : w1.cell? ⟨w.heap.size, 1, none⟩ = some (.int .i64 e.op) := B0.cell 1
    have rc2 : w1.cell? ⟨w.heap.size, 2, none⟩ = some (.string e.nm) := B0.cell 2
    have rc3 : w1.cell? ⟨w.heap.size, 3, none⟩ = some (.int .i64 e.v.k) := B0.cell 3
    have rc4 : w1.cell? ⟨w.heap.size, 4, none⟩ = some (.int .i64 e.v.n) := B0.cell 4
    have rc5 : w1.cell? ⟨w.heap.size, 5, none⟩ = some (.string e.v.s) := B0.cell 5
    have rc6 : w1.cell? ⟨w.heap.size, 6, none⟩ = some (.slice A e.v.l.length c) := B0.cell 6
    have rc7 : w1.cell? ⟨w.heap.size, 7, none⟩ = some (.slice A' e.ar.length c') := B0.cell 7
    by_cases h0 : f = 0
    rotate_left
    · have bf : (f != 0) = true := by simpa using h0
      have HG := Lib.hid (HFE.out.trans (by rw [HF.out, if_pos h0]))
      clear h0
      go_wp2
      go_ret
      exact ⟨ret_int (by rw [HG.out]), hbw⟩
    subst h0
    have HG := Lib.hid (show e.fault = faultL e.ar from HFE.out.trans (by rw [HF.out, if_neg (by omega)]))
    clear HFE
    go_wp2
    go_loopw [15] (fun i wr => ∃ k : Nat, k ≤ e.ar.length ∧ i = .int .i64 k ∧ Hid (faultL e.ar = faultL (e.ar.drop k)) ∧ Below w.heap.size w wr) (fun i _ => e.ar.length - (intOf i).toNat)
    case atStart => exact ⟨0, Nat.zero_le _, rfl, Lib.hid rfl, hbw⟩
    case round =>
      obtain ⟨k, hk, rfl, HD, hbr⟩ := hrel
      have hsr := hbr.size
      have hbr0 := hbr.mono hB
      by_cases hlt : k < e.ar.length
      · obtain ⟨ad, ci, rfl, hb, hci, hcell⟩ := ExAt.arg (HR.out.1.below hbr0) (fun i h => (HR.out.2 i h).keep hbr0) hlt
        obtain ⟨a, hea⟩ : ∃ a, e.ar[k] = a := ⟨_, rfl⟩
        have ham : a ∈ e.ar := by rw [← hea]; exact List.getElem_mem hlt
        obtain ⟨g, hg⟩ : ∃ g, a.fault = g := ⟨_, rfl⟩
        have HGF := Lib.hid hg
        have HDD := Lib.hid (show faultL (e.ar.drop k) = if g ≠ 0 then g else faultL (e.ar.drop (k + 1)) by
          rw [List.drop_eq_getElem_cons hlt, hea, faultL, hg])
        have HLT := Lib.hid hlt
        have HI1 := Lib.hid (fun w' h1 h2 => HI.out a ham B ci w' h1 h2)
        rw [hea] at hci
        have HCI := Lib.hid hci
        obtain ⟨hn1, hs1, hl1, ha1, hx1, hr1, hi1⟩ := hci
        rename_i A1 c1 A1' c1' cs1
        have fc0 : wr.cell? (ad.add (k * 8)) = some (.int .i64 a.k) := hcell 0 _ rfl
        have fc1 : wr.cell? ⟨(ad.add (k * 8)).block, (ad.add (k * 8)).off + 1, none⟩ = some (.int .i64 a.op) := hcell 1 _ rfl
        have fc2 : wr.cell? ⟨(ad.add (k * 8)).block, (ad.add (k * 8)).off + 2, none⟩ = some (.string a.nm) := hcell 2 _ rfl
        have fc3 : wr.cell? ⟨(ad.add (k * 8)).block, (ad.add (k * 8)).off + 3, none⟩ = some (.int .i64 a.v.k) := hcell 3 _ rfl
        have fc4 : wr.cell? ⟨(ad.add (k * 8)).block, (ad.add (k * 8)).off + 4, none⟩ = some (.int .i64 a.v.n) := hcell 4 _ rfl
        have fc5 : wr.cell? ⟨(ad.add (k * 8)).block, (ad.add (k * 8)).off + 5, none⟩ = some (.string a.v.s) := hcell 5 _ rfl
        have fc6 : wr.cell? ⟨(ad.add (k * 8)).block, (ad.add (k * 8)).off + 6, none⟩ = some (.slice A1 a.v.l.length c1) := hcell 6 _ rfl
        have fc7 : wr.cell? ⟨(ad.add (k * 8)).block, (ad.add (k * 8)).off + 7, none⟩ = some (.slice A1' a.ar.length c1') := hcell 7 _ rfl
        clear hx1 hr1 hi1 hcell hea ham hg
        go_wp2_with fail
        obtain ⟨W, hW⟩ : ∃ W, W = wr.alloc (.cells #[.int .i64 a.k, .int .i64 a.op, .string a.nm, .int .i64 a.v.k, .int .i64 a.v.n, .string a.v.s, .slice A1 a.v.l.length c1, .slice A1' a.ar.length c1'] 27 (0, 0)) := ⟨_, rfl⟩
        have hbW : Below wr.heap.size wr W := hW ▸ (Below.refl _ wr).alloc (Nat.le_refl _) _
        rw [← hW]
        have hb2 := hbr.trans (hbW.mono hsr)
        have hbB := hbW.mono (Nat.le_trans hB hsr)
        clear hW fc0 fc1 fc2 fc3 fc4 fc5 fc6 fc7
        refine (HI1.out W (HCI.out.keep hbB) (Nat.le_trans hB hb2.size)).mono ?_
        rw [HGF.out]
        rintro en w3 ⟨rfl, hb3⟩
        have hbw := hb2.trans (hb3.mono hb2.size)
        clear hb3 hbW hbB hb2 HI1
        by_cases hg0 : g = 0
        rotate_left
        · have bg : (g != 0) = true := by simpa using hg0
          have HFF := Lib.hid (show e.fault = g by rw [HG.out, HD.out, HDD.out, if_pos hg0])
          clear hg0
          go_wp2
          go_ret
          exact ⟨ret_int (by rw [HFF.out]), hbw⟩
        subst hg0
        have HD2 := Lib.hid (show faultL e.ar = faultL (e.ar.drop (k + 1)) by rw [HD.out, HDD.out, if_neg (by omega)])
        go_wp2
        go_roundw
        case rel => exact ⟨k + 1, HLT.out, by go_num, HD2, hbw⟩
        case measure =>
          have := HLT.out
          simp [intOf]
          omega
      · have HFF := Lib.hid (show e.fault = 0 by rw [HG.out, HD.out, List.drop_eq_nil_of_le (by omega)]; rfl)
        go_wp2
        go_ret
        exact ⟨ret_int (by rw [HFF.out]), hbr⟩
end Go.Proofs.YtobanldeicclmaaGreatDoor
namespace Go.Proofs.YtobanldeicclmaaGreatDoor
open Go.RowKit
/-- a world in which, of what was there, two blocks alone may have turned -/
structure Two (w w' : World) (p d : Nat) : Prop where
  os : w'.os = w.os
  tape : w'.tape = w.tape
  output : w'.output = w.output
  size : w.heap.size ≤ w'.heap.size
  block : ∀ i, i < w.heap.size → i ≠ p → i ≠ d → w'.heap[i]? = w.heap[i]?
theorem Two.refl (w : World) (p d : Nat) : Two w w p d := ⟨rfl, rfl, rfl, Nat.le_refl _, fun _ _ _ _ => rfl⟩
theorem Two.trans {a b c : World} {p d : Nat} (h : Two a b p d) (k : Two b c p d) : Two a c p d :=
  ⟨k.os.trans h.os, k.tape.trans h.tape, k.output.trans h.output, Nat.le_trans h.size k.size, fun i hi h1 h2 => (k.block i (Nat.lt_of_lt_of_le hi h.size) h1 h2).trans (h.block i hi h1 h2)⟩
theorem Two.alloc {a w : World} {p d : Nat} (h : Two a w p d) (o : Obj) : Two a (w.alloc o) p d :=
  ⟨h.os, h.tape, h.output, by rw [World.size_alloc]; exact Nat.le_succ_of_le h.size, fun i hi h1 h2 => (Below.heap_alloc w o i (Nat.lt_of_lt_of_le hi h.size)).trans (h.block i hi h1 h2)⟩
theorem Two.set {a w : World} {p d : Nat} (h : Two a w p d) {q : Addr} (hq : q.block = p ∨ q.block = d) (u : Value) : Two a (w.setCell q u) p d :=
  ⟨h.os, h.tape, h.output, by show _ ≤ (w.setCell q u).heap.size; simp [World.setCell]; exact h.size, fun i hi h1 h2 => (Below.heap_setCell w q u i (by rcases hq with e | e <;> rw [e] <;> assumption)).trans (h.block i hi h1 h2)⟩
theorem Two.below {w w' : World} {p d B : Nat} (h : Two w w' p d) (hp : B ≤ p) (hd : B ≤ d) (hB : B ≤ w.heap.size) : Below B w w' :=
  ⟨h.os, h.tape, h.output, h.size, fun i hi => h.block i (by omega) (by omega) (by omega)⟩
theorem Blk.two {w w' : World} {p d g : Nat} {t : TypeId} {cs : Array Value} (h : Blk w g t cs) (ht : Two w w' p d) (h1 : g ≠ p) (h2 : g ≠ d) : Blk w' g t cs := (ht.block g h.lt h1 h2).trans h
theorem meas_le1 (e : Ex) : ∀ lv (s : Nat × Nat), (e.meas lv s).1 ≤ s.1 + e.parts := by
  induction e using Ex.ind with
  | h e ih =>
    intro lv s
    rw [meas_eq, parts_eq]
    split
    · show s.1 + 1 ≤ _; omega
    · have : ∀ (l : List Ex), (∀ a ∈ l, a ∈ e.ar) → ∀ s : Nat × Nat, (measL l (lv + 1) s).1 ≤ s.1 + partsL l := by
        intro l
        induction l with
        | nil => intro _ s; rw [measL, partsL]; exact Nat.le_refl _
        | cons a r ih2 =>
          intro h s
          have h1 := ih a (h a (List.mem_cons_self ..)) (lv + 1) s
          have h2 := ih2 (fun b hb => h b (List.mem_cons_of_mem _ hb)) (a.meas (lv + 1) s)
          rw [measL, partsL]
          omega
      have := this e.ar (fun a ha => ha) (s.1 + 1, max s.2 lv)
      simp only at this
      omega
theorem meas_le2 (e : Ex) : ∀ lv (s : Nat × Nat), lv ≤ 21 → s.2 ≤ 21 → (e.meas lv s).2 ≤ 21 := by
  induction e using Ex.ind with
  | h e ih =>
    intro lv s h1 h2
    rw [meas_eq]
    split
    · show max s.2 lv ≤ _; omega
    · rename_i hc
      have : ∀ (l : List Ex), (∀ a ∈ l, a ∈ e.ar) → ∀ s : Nat × Nat, s.2 ≤ 21 → (measL l (lv + 1) s).2 ≤ 21 := by
        intro l
        induction l with
        | nil => intro _ s hs; rw [measL]; exact hs
        | cons a r ih2 =>
          intro h s hs
          rw [measL]
          exact ih2 (fun b hb => h b (List.mem_cons_of_mem _ hb)) _ (ih a (h a (List.mem_cons_self ..)) (lv + 1) s (by omega) hs)
      exact this e.ar (fun a ha => ha) _ (by show max s.2 lv ≤ _; omega)
theorem measL_snoc (a : Ex) (lv : Nat) : ∀ (l : List Ex) (s : Nat × Nat), measL (l ++ [a]) lv s = a.meas lv (measL l lv s)
  | [], s => by rw [List.nil_append, measL, measL, measL]
  | b :: r, s => by rw [List.cons_append, measL, measL, measL_snoc a lv r]
theorem measL_take1 (l : List Ex) (lv : Nat) (s : Nat × Nat) : ∀ k, (measL (l.take k) lv s).1 ≤ s.1 + partsL (l.take k) := by
  intro k
  have : ∀ (l : List Ex) (s : Nat × Nat), (measL l lv s).1 ≤ s.1 + partsL l := by
    intro l
    induction l with
    | nil => intro s; rw [measL, partsL]; exact Nat.le_refl _
    | cons a r ih =>
      intro s
      have h1 := meas_le1 a lv s
      have h2 := ih (a.meas lv s)
      rw [measL, partsL]
      omega
  exact this _ s
theorem measL_take2 (l : List Ex) (lv : Nat) (s : Nat × Nat) (h1 : lv ≤ 21) (h2 : s.2 ≤ 21) : ∀ k, (measL (l.take k) lv s).2 ≤ 21 := by
  intro k
  have : ∀ (l : List Ex) (s : Nat × Nat), s.2 ≤ 21 → (measL l lv s).2 ≤ 21 := by
    intro l
    induction l with
    | nil => intro s hs; rw [measL]; exact hs
    | cons a r ih =>
      intro s hs
      rw [measL]
      exact ih _ (meas_le2 a lv s h1 hs)
  exact this _ s h2
/-- what measure leaves -/
structure MeR (en : Ending) (w w' : World) (pb db : Nat) (s : Nat × Nat) : Prop where
  he : ∃ v, en = .returned v
  two : Two w w' pb db
  hp : Blk w' pb 3 #[.int .i64 (s.1 : Nat)]
  hd : Blk w' db 3 #[.int .i64 (s.2 : Nat)]
set_option maxHeartbeats 4000000 in
set_option maxRecDepth 100000 in
theorem measure_any (e : Ex) : ∀ (B pb db : Nat) (cs : List Value) (lv p d : Nat) (w : World), ExAt w B e cs → B ≤ w.heap.size → B ≤ pb → B ≤ db → pb ≠ db → Blk w pb 3 #[.int .i64 (p : Nat)] → Blk w db 3 #[.int .i64 (d : Nat)] →
    lv ≤ 21 → d ≤ 21 → p + e.parts ≤ 1000000000000 →
    Calls Tryz.prog 19 #[.agg cs.toArray, .int .i64 (lv : Nat), .pointer (some ⟨pb, 0, none⟩), .pointer (some ⟨db, 0, none⟩)] w fun en w' => MeR en w w' pb db (e.meas lv (p, d)) := by
  induction e using Ex.ind with
  | h e ih =>
    rintro B pb db cs lv p d w hx hB hpb hdb hne Bp Bd hlv hd hp
    obtain ⟨hn, hs, hl, ha, hx, hr, hi⟩ := hx
    rename_i A c A' c' cs
    have HR := Lib.hid (And.intro hr hi)
    have HI := Lib.hid ih
    have hpe := parts_eq e
    have hp1 : p + 1 ≤ 1000000000000 := by omega
    have HME := Lib.hid (meas_eq e lv (p, d))
    unfold maxLen at ha
    clear hr hi ih hx
    show Calls Tryz.prog 19 #[.agg #[.int .i64 e.k, .int .i64 e.op, .string e.nm, .int .i64 e.v.k, .int .i64 e.v.n, .string e.v.s, .slice A e.v.l.length c, .slice A' e.ar.length c'], .int .i64 (lv : Nat), .pointer (some ⟨pb, 0, none⟩), .pointer (some ⟨db, 0, none⟩)] w _
    go_enter Tryz.func19, Tryz.ntmps19
    go_upto_region 1 with (fail)
    obtain ⟨W, hW⟩ : ∃ W, W = w.alloc (.cells #[.int .i64 e.k, .int .i64 e.op, .string e.nm, .int .i64 e.v.k, .int .i64 e.v.n, .string e.v.s, .slice A e.v.l.length c, .slice A' e.ar.length c'] 27 (0, 0)) := ⟨_, rfl⟩
    have B0 : Blk W w.heap.size 27 #[.int .i64 e.k, .int .i64 e.op, .string e.nm, .int .i64 e.v.k, .int .i64 e.v.n, .string e.v.s, .slice A e.v.l.length c, .slice A' e.ar.length c'] := hW ▸ Blk.new w _ _
    have hpl := Bp.lt
    have hdl := Bd.lt
    have Bp := (hW ▸ Bp.alloc _ : Blk W pb 3 #[.int .i64 (p : Nat)])
    have Bd := (hW ▸ Bd.alloc _ : Blk W db 3 #[.int .i64 (d : Nat)])
    have T0 : Two w W pb db := hW ▸ (Two.refl w pb db).alloc _
    rw [← hW]
    clear hW
    have HPE := Lib.hid hpe
    clear hpe
    have pc : W.cell? ⟨pb, 0, none⟩ = some (.int .i64 (p : Nat)) := Bp.cell 0
    have pz : W.frozen? ⟨pb, 0, none⟩ = false := Bp.frozen 0
    have dc : W.cell? ⟨db, 0, none⟩ = some (.int .i64 (d : Nat)) := Bd.cell 0
    have dz : W.frozen? ⟨db, 0, none⟩ = false := Bd.frozen 0
    have rc0 : W.cell? ⟨w.heap.size, 0, none⟩ = some (.int .i64 e.k) := B0.cell 0
    have rc1 : W.cell? ⟨w.heap.size, 1, none⟩ = some (.int .i64 e.op) := B0.cell 1
    have rc2 : W.cell? ⟨w.heap.size, 2, none⟩ = some (.string e.nm) := B0.cell 2
    have rc3 : W.cell? ⟨w.heap.size, 3, none⟩ = some (.int .i64 e.v.k) := B0.cell 3
    have rc4 : W.cell? ⟨w.heap.size, 4, none⟩ = some (.int .i64 e.v.n) := B0.cell 4
    have rc5 : W.cell? ⟨w.heap.size, 5, none⟩ = some (.string e.v.s) := B0.cell 5
    have rc6 : W.cell? ⟨w.heap.size, 6, none⟩ = some (.slice A e.v.l.length c) := B0.cell 6
    have rc7 : W.cell? ⟨w.heap.size, 7, none⟩ = some (.slice A' e.ar.length c') := B0.cell 7
    go_upto_region 2 with (fail)
    obtain ⟨W1, hW1⟩ : ∃ W1, W1 = W.setCell ⟨pb, 0, none⟩ (.int .i64 ((p : Int) + 1)) := ⟨_, rfl⟩
    have B0 : Blk W1 w.heap.size 27 #[.int .i64 e.k, .int .i64 e.op, .string e.nm, .int .i64 e.v.k, .int .i64 e.v.n, .string e.v.s, .slice A e.v.l.length c, .slice A' e.ar.length c'] := hW1 ▸ B0.far (p := ⟨pb, 0, none⟩) (by show w.heap.size ≠ pb; omega) _
    have Bp : Blk W1 pb 3 #[.int .i64 ((p : Int) + 1)] := hW1 ▸ Bp.set_ 0 _
    have Bd : Blk W1 db 3 #[.int .i64 (d : Nat)] := hW1 ▸ Bd.far (p := ⟨pb, 0, none⟩) (by show db ≠ pb; omega) _
    have T1 : Two w W1 pb db := hW1 ▸ T0.set (q := ⟨pb, 0, none⟩) (.inl rfl) _
    rw [← hW1]
    clear hW1 T0 pc pz dc dz rc0 rc1 rc2 rc3 rc4 rc5 rc6 rc7
    have pc : W1.cell? ⟨pb, 0, none⟩ = some (.int .i64 ((p : Int) + 1)) := Bp.cell 0
    have dc : W1.cell? ⟨db, 0, none⟩ = some (.int .i64 (d : Nat)) := Bd.cell 0
    have dz : W1.frozen? ⟨db, 0, none⟩ = false := Bd.frozen 0
    go_upto_region 3 with (fail)
    obtain ⟨W2, hW2⟩ : ∃ W2, W2 = W1.setCell ⟨db, 0, none⟩ (.int .i64 (max (d : Int) (lv : Int))) := ⟨_, rfl⟩
    have B0 : Blk W2 w.heap.size 27 #[.int .i64 e.k, .int .i64 e.op, .string e.nm, .int .i64 e.v.k, .int .i64 e.v.n, .string e.v.s, .slice A e.v.l.length c, .slice A' e.ar.length c'] := hW2 ▸ B0.far (p := ⟨db, 0, none⟩) (by show w.heap.size ≠ db; omega) _
    have Bp : Blk W2 pb 3 #[.int .i64 ((p : Int) + 1)] := hW2 ▸ Bp.far (p := ⟨db, 0, none⟩) (by show pb ≠ db; omega) _
    have Bd : Blk W2 db 3 #[.int .i64 (max (d : Int) (lv : Int))] := hW2 ▸ Bd.set_ 0 _
    have T2 : Two w W2 pb db := hW2 ▸ T1.set (q := ⟨db, 0, none⟩) (.inr rfl) _
    rw [← hW2]
    clear hW2 T1 pc dc dz
    have Bp : Blk W2 pb 3 #[.int .i64 ((p + 1 : Nat) : Int)] := by rw [show ((p + 1 : Nat) : Int) = (p : Int) + 1 from by omega]; exact Bp
    have Bd : Blk W2 db 3 #[.int .i64 ((max d lv : Nat) : Int)] := by rw [show ((max d lv : Nat) : Int) = max (d : Int) (lv : Int) from by omega]; exact Bd
    have pc : W2.cell? ⟨pb, 0, none⟩ = some (.int .i64 ((p + 1 : Nat) : Int)) := Bp.cell 0
    obtain ⟨q, hq⟩ : ∃ q, p + 1 = q := ⟨_, rfl⟩
    obtain ⟨g, hg⟩ : ∃ g, max d lv = g := ⟨_, rfl⟩
    have hgl : g ≤ 21 := by omega
    rw [hq] at Bp pc hp1
    rw [hg] at Bd
    have HM2 := Lib.hid (show e.meas lv (p, d) = if 300 < q ∨ 20 < lv then (q, g) else measL e.ar (lv + 1) (q, g) by rw [HME.out, ← hq, ← hg])
    have hqp : q + partsL e.ar ≤ 1000000000000 := by have := HPE.out; omega
    clear HME HPE hq hg
    by_cases h3 : 300 < q
    · have b3 : decide ((300 : Int) < (q : Nat)) = true := by simp; omega
      have HG := Lib.hid (HM2.out.trans (if_pos (.inl h3)))
      clear h3
      go_wp2
      refine bodyPost_ret (v := .tuple #[]) (by simp [results, Tryz.results19, go_sem]) rfl ⟨⟨_, rfl⟩, T2, ?_, ?_⟩
      · rw [HG.out]; exact Bp
      · rw [HG.out]; exact Bd
    have b3 : decide ((300 : Int) < (q : Nat)) = false := by simp; omega
    by_cases h20 : 20 < lv
    · have b20 : decide ((20 : Int) < (lv : Nat)) = true := by simp; omega
      have HG := Lib.hid (HM2.out.trans (if_pos (.inr h20)))
      clear h3 h20
      go_wp2
      refine bodyPost_ret (v := .tuple #[]) (by simp [results, Tryz.results19, go_sem]) rfl ⟨⟨_, rfl⟩, T2, ?_, ?_⟩
      · rw [HG.out]; exact Bp
      · rw [HG.out]; exact Bd
    have b20 : decide ((20 : Int) < (lv : Nat)) = false := by simp; omega
    have HG := Lib.hid (HM2.out.trans (if_neg (by omega)))
    have hl20 : lv ≤ 20 := by omega
    clear h3 h20 HM2 pc
    have pc : W2.cell? ⟨pb, 0, none⟩ = some (.int .i64 (q : Nat)) := Bp.cell 0
    have rc0 : W2.cell? ⟨w.heap.size, 0, none⟩ = some (.int .i64 e.k) := B0.cell 0
    have rc1 : W2.cell? ⟨w.heap.size, 1, none⟩ = some (.int .i64 e.op) := B0.cell 1
    have rc2 : W2.cell? ⟨w.heap.size, 2, none⟩ = some (.string e.nm) := B0.cell 2
    have rc3 : W2.cell? ⟨w.heap.size, 3, none⟩ = some (.int .i64 e.v.k) := B0.cell 3
    have rc4 : W2.cell? ⟨w.heap.size, 4, none⟩ = some (.int .i64 e.v.n) := B0.cell 4
    have rc5 : W2.cell? ⟨w.heap.size, 5, none⟩ = some (.string e.v.s) := B0.cell 5
    have rc6 : W2.cell? ⟨w.heap.size, 6, none⟩ = some (.slice A e.v.l.length c) := B0.cell 6
    have rc7 : W2.cell? ⟨w.heap.size, 7, none⟩ = some (.slice A' e.ar.length c') := B0.cell 7
    go_wp2
    have HBp := Lib.hid Bp
    have HBd := Lib.hid Bd
    clear pc rc0 rc1 rc2 rc3 rc4 rc5 rc6 rc7 Bp Bd B0
    go_loopw [33] (fun i wr => ∃ (k : Nat), k ≤ e.ar.length ∧ i = .int .i64 k ∧ Two w wr pb db ∧ Hid (Blk wr pb 3 #[.int .i64 ((measL (e.ar.take k) (lv + 1) (q, g)).1 : Nat)] ∧ Blk wr db 3 #[.int .i64 ((measL (e.ar.take k) (lv + 1) (q, g)).2 : Nat)])) (fun i _ => e.ar.length - (intOf i).toNat)
    case atStart => exact ⟨0, Nat.zero_le _, rfl, T2, Lib.hid ⟨HBp.out, HBd.out⟩⟩
    case round =>
      obtain ⟨k, hk, rfl, hbr, HBB⟩ := hrel
      clear HBp HBd T2
      have hsr := hbr.size
      have hbr0 := hbr.below hpb hdb hB
      by_cases hlt : k < e.ar.length
      · obtain ⟨ad, ci, rfl, hb, hci, hcell⟩ := ExAt.arg (HR.out.1.below hbr0) (fun i h => (HR.out.2 i h).keep hbr0) hlt
        obtain ⟨a, hea⟩ : ∃ a, e.ar[k] = a := ⟨_, rfl⟩
        have ham : a ∈ e.ar := by rw [← hea]; exact List.getElem_mem hlt
        obtain ⟨P, hP⟩ : ∃ P, measL (e.ar.take k) (lv + 1) (q, g) = P := ⟨_, rfl⟩
        obtain ⟨P1, P2⟩ := P
        have HS := Lib.hid (show measL (e.ar.take (k + 1)) (lv + 1) (q, g) = a.meas (lv + 1) (P1, P2) by
          rw [List.take_succ_eq_append_getElem hlt, measL_snoc, hea, hP])
        have hq1 : P1 + a.parts ≤ 1000000000000 := by
          have h1 := measL_take1 e.ar (lv + 1) (q, g) k
          rw [hP] at h1
          have h2 : partsL (e.ar.take k) + a.parts = partsL (e.ar.take (k + 1)) := by rw [List.take_succ_eq_append_getElem hlt, partsL_snoc, hea]
          have h3 := partsL_take e.ar (k + 1)
          simp only at h1
          omega
        have hq2 : P2 ≤ 21 := by
          have h1 := measL_take2 e.ar (lv + 1) (q, g) (by omega) hgl k
          rw [hP] at h1
          exact h1
        have HLT := Lib.hid hlt
        rw [hP] at HBB
        rw [hea] at hci
        have HCI := Lib.hid hci
        have HI1 := Lib.hid (fun w' h1 h2 h3 h4 => HI.out a ham B pb db ci (lv + 1) P1 P2 w' h1 h2 hpb hdb hne h3 h4 (by omega) hq2 hq1)
        obtain ⟨hn1, hs1, hl1, ha1, hx1, hr1, hi1⟩ := hci
        rename_i A1 c1 A1' c1' cs1
        have fc0 : wr.cell? (ad.add (k * 8)) = some (.int .i64 a.k) := hcell 0 _ rfl
        have fc1 : wr.cell? ⟨(ad.add (k * 8)).block, (ad.add (k * 8)).off + 1, none⟩ = some (.int .i64 a.op) := hcell 1 _ rfl
        have fc2 : wr.cell? ⟨(ad.add (k * 8)).block, (ad.add (k * 8)).off + 2, none⟩ = some (.string a.nm) := hcell 2 _ rfl
        have fc3 : wr.cell? ⟨(ad.add (k * 8)).block, (ad.add (k * 8)).off + 3, none⟩ = some (.int .i64 a.v.k) := hcell 3 _ rfl
        have fc4 : wr.cell? ⟨(ad.add (k * 8)).block, (ad.add (k * 8)).off + 4, none⟩ = some (.int .i64 a.v.n) := hcell 4 _ rfl
        have fc5 : wr.cell? ⟨(ad.add (k * 8)).block, (ad.add (k * 8)).off + 5, none⟩ = some (.string a.v.s) := hcell 5 _ rfl
        have fc6 : wr.cell? ⟨(ad.add (k * 8)).block, (ad.add (k * 8)).off + 6, none⟩ = some (.slice A1 a.v.l.length c1) := hcell 6 _ rfl
        have fc7 : wr.cell? ⟨(ad.add (k * 8)).block, (ad.add (k * 8)).off + 7, none⟩ = some (.slice A1' a.ar.length c1') := hcell 7 _ rfl
        clear hx1 hr1 hi1 hcell hea ham hP hq1
        go_wp2_with fail
        obtain ⟨W3, hW3⟩ : ∃ W3, W3 = wr.alloc (.cells #[.int .i64 a.k, .int .i64 a.op, .string a.nm, .int .i64 a.v.k, .int .i64 a.v.n, .string a.v.s, .slice A1 a.v.l.length c1, .slice A1' a.ar.length c1'] 27 (0, 0)) := ⟨_, rfl⟩
        have T3 : Two w W3 pb db := hW3 ▸ hbr.alloc _
        have Bp3 : Blk W3 pb 3 #[.int .i64 (P1 : Nat)] := hW3 ▸ HBB.out.1.alloc _
        have Bd3 : Blk W3 db 3 #[.int .i64 (P2 : Nat)] := hW3 ▸ HBB.out.2.alloc _
        have hbW : Below wr.heap.size wr W3 := hW3 ▸ (Below.refl _ wr).alloc (Nat.le_refl _) _
        rw [← hW3]
        clear hW3 fc0 fc1 fc2 fc3 fc4 fc5 fc6 fc7
        rw [show ((lv : Nat) : Int) + 1 = ((lv + 1 : Nat) : Int) from by omega]
        refine (HI1.out W3 (HCI.out.keep (hbW.mono (by omega))) (by have := T3.size; omega) Bp3 Bd3).mono ?_
        rintro en w4 ⟨⟨v0, rfl⟩, T4, Bp4, Bd4⟩
        have hbw := T3.trans T4
        have HB4 := Lib.hid (And.intro Bp4 Bd4)
        clear T3 T4 Bp3 Bd3 Bp4 Bd4 hbW HI1 HBB
        go_wp2
        go_roundw
        case rel => exact ⟨k + 1, HLT.out, by go_num, hbw, by rw [HS.out]; exact HB4⟩
        case measure =>
          have := HLT.out
          simp [intOf]
          omega
      · have hke : e.ar.take k = e.ar := List.take_of_length_le (by omega)
        rw [hke, ← HG.out] at HBB
        clear hke
        go_wp2
        refine bodyPost_end (v := .tuple #[]) (by simp [results, Tryz.results19, go_sem]) rfl ⟨⟨_, rfl⟩, hbr, HBB.out.1, HBB.out.2⟩
set_option maxHeartbeats 2000000 in
set_option maxRecDepth 100000 in
theorem CheckExpr_any (e : Ex) (B : Nat) (cs : List Value) (w : World) (hx : ExAt w B e cs) (hB : B ≤ w.heap.size) (hp : e.parts ≤ 100000000) :
    Calls Tryz.prog 9 #[.agg cs.toArray] w fun en w' => en = .returned (.int .i64 (checkE e)) ∧ Below w.heap.size w w' := by
  have HX := Lib.hid hx
  obtain ⟨hn, hs, hl, ha, hx, hr, hi⟩ := hx
  rename_i A c A' c' cs
  clear hx hr hi
  have HB := Lib.hid (meas_bad e)
  have h1 := meas_le1 e 1 (0, 0)
  have h2 := meas_le2 e 1 (0, 0) (by omega) (by simp)
  obtain ⟨P, hP⟩ : ∃ P, e.meas 1 (0, 0) = P := ⟨_, rfl⟩
  have HP := Lib.hid hP
  rw [hP] at h1 h2
  obtain ⟨p, d⟩ := P
  simp only [Nat.zero_add] at h1 h2
  clear hP
  show Calls Tryz.prog 9 #[.agg #[.int .i64 e.k, .int .i64 e.op, .string e.nm, .int .i64 e.v.k, .int .i64 e.v.n, .string e.v.s, .slice A e.v.l.length c, .slice A' e.ar.length c']] w _
  go_enter Tryz.func9, Tryz.ntmps9
  go_wp2_with fail
  obtain ⟨W, hW⟩ : ∃ W, W = (((w.alloc (.cells #[.int .i64 e.k, .int .i64 e.op, .string e.nm, .int .i64 e.v.k, .int .i64 e.v.n, .string e.v.s, .slice A e.v.l.length c, .slice A' e.ar.length c'] 27 (0, 0))).alloc (.cells #[.int .i64 0] 3 (0, 0))).alloc (.cells #[.int .i64 0] 3 (0, 0))) := ⟨_, rfl⟩
  have hbw : Below w.heap.size w W := by rw [hW]; exact ((((Below.refl _ w).alloc (Nat.le_refl _) _).alloc (by simp) _).alloc (by simp; omega) _)
  have B0 : Blk W (w.heap.size) 27 #[.int .i64 e.k, .int .i64 e.op, .string e.nm, .int .i64 e.v.k, .int .i64 e.v.n, .string e.v.s, .slice A e.v.l.length c, .slice A' e.ar.length c'] := by
    rw [hW]
    have := Blk.new w 27 #[.int .i64 e.k, .int .i64 e.op, .string e.nm, .int .i64 e.v.k, .int .i64 e.v.n, .string e.v.s, .slice A e.v.l.length c, .slice A' e.ar.length c']
    have := this.alloc (.cells #[.int .i64 0] 3 (0, 0))
    have := this.alloc (.cells #[.int .i64 0] 3 (0, 0))
    exact this
  have B1 : Blk W (w.heap.size + 1) 3 #[.int .i64 0] := by
    rw [hW]
    have := Blk.new (w.alloc (.cells #[.int .i64 e.k, .int .i64 e.op, .string e.nm, .int .i64 e.v.k, .int .i64 e.v.n, .string e.v.s, .slice A e.v.l.length c, .slice A' e.ar.length c'] 27 (0, 0))) 3 #[.int .i64 0]
    have := this.alloc (.cells #[.int .i64 0] 3 (0, 0))
    rwa [World.size_alloc] at this
  have B2 : Blk W (w.heap.size + 2) 3 #[.int .i64 0] := by
    rw [hW]
    have := Blk.new ((w.alloc (.cells #[.int .i64 e.k, .int .i64 e.op, .string e.nm, .int .i64 e.v.k, .int .i64 e.v.n, .string e.v.s, .slice A e.v.l.length c, .slice A' e.ar.length c'] 27 (0, 0))).alloc (.cells #[.int .i64 0] 3 (0, 0))) 3 #[.int .i64 0]
    rwa [World.size_alloc, World.size_alloc] at this
  have hsz : W.heap.size = w.heap.size + 3 := by rw [hW]; simp
  rw [← hW]
  refine (measure_any e B (w.heap.size + 1) (w.heap.size + 2) _ 1 0 0 W (HX.out.keep (hbw.mono hB)) (by omega) (by omega) (by omega) (by omega) B1 B2 (by omega) (by omega) (by omega)).mono ?_
  rw [HP.out]
  rintro en w1 ⟨⟨v0, rfl⟩, T, Bp, Bd⟩
  have hbw := hbw.trans (T.below (by omega) (by omega) hbw.size)
  have B0 := B0.two T (by omega) (by omega)
  have hsz1 : W.heap.size ≤ w1.heap.size := T.size
  clear hW T B1 B2
  have pc : w1.cell? ⟨w.heap.size + 1, 0, none⟩ = some (.int .i64 (p : Nat)) := Bp.cell 0
  have dc : w1.cell? ⟨w.heap.size + 2, 0, none⟩ = some (.int .i64 (d : Nat)) := Bd.cell 0
  have rc0 : w1.cell? ⟨w.heap.size, 0, none⟩ = some (.int .i64 e.k) := B0.cell 0
  have rc1 : w1.cell? ⟨w.heap.size, 1, none⟩ = some (.int .i64 e.op) := B0.cell 1
  have rc2 : w1.cell? ⟨w.heap.size, 2, none⟩ = some (.string e.nm) := B0.cell 2
  have rc3 : w1.cell? ⟨w.heap.size, 3, none⟩ = some (.int .i64 e.v.k) := B0.cell 3
  have rc4 : w1.cell? ⟨w.heap.size, 4, none⟩ = some (.int .i64 e.v.n) := B0.cell 4
  have rc5 : w1.cell? ⟨w.heap.size, 5, none⟩ = some (.string e.v.s) := B0.cell 5
  have rc6 : w1.cell? ⟨w.heap.size, 6, none⟩ = some (.slice A e.v.l.length c) := B0.cell 6
  have rc7 : w1.cell? ⟨w.heap.size, 7, none⟩ = some (.slice A' e.ar.length c') := B0.cell 7
  have HQ := Lib.hid (show (300 < p ∨ 20 < d) ↔ (300 < e.parts ∨ 20 < e.depth) by have h := HB.out; rw [HP.out] at h; exact h)
  by_cases h3 : 300 < p
  · have b3 : decide ((300 : Int) < (p : Nat)) = true := by simp; omega
    have HG := Lib.hid (show checkE e = 2 by unfold checkE; rw [if_pos (HQ.out.1 (.inl h3))])
    clear h3
    go_wp2
    go_ret
    exact ⟨ret_int (by rw [HG.out]), hbw⟩
  have b3 : decide ((300 : Int) < (p : Nat)) = false := by simp; omega
  by_cases h20 : 20 < d
  · have b20 : decide ((20 : Int) < (d : Nat)) = true := by simp; omega
    have HG := Lib.hid (show checkE e = 2 by unfold checkE; rw [if_pos (HQ.out.1 (.inr h20))])
    clear h3 h20
    go_wp2
    go_ret
    exact ⟨ret_int (by rw [HG.out]), hbw⟩
  have b20 : decide ((20 : Int) < (d : Nat)) = false := by simp; omega
  have HG := Lib.hid (show checkE e = e.fault by unfold checkE; rw [if_neg (fun h => by have := HQ.out.2 h; omega)])
  clear h3 h20
  go_wp2_with fail
  refine (partsFault_any e B _ w1 (HX.out.keep (hbw.mono hB)) (Nat.le_trans hB hbw.size)).mono ?_
  rintro en w2 ⟨rfl, hb2⟩
  have hbw := hbw.trans (hb2.mono hbw.size)
  clear hb2 pc dc rc0 rc1 rc2 rc3 rc4 rc5 rc6 rc7
  go_wp2
  go_ret
  exact ⟨ret_int (by rw [HG.out]), hbw⟩
end Go.Proofs.YtobanldeicclmaaGreatDoor
namespace Go.Proofs.YtobanldeicclmaaGreatDoor
open Go.RowKit
attribute [local go_sem ↓] Go.wp_at_zero Go.wp_at_succ
def SSpec (e : Ex) : Prop := ∀ (B1 B2 : Nat) (cs1 cs2 : List Value) (w : World), ExAt w B1 e cs1 → ExAt w B2 e cs2 → B1 ≤ w.heap.size → B2 ≤ w.heap.size → Calls Tryz.prog 7 #[.agg cs1.toArray, .agg cs2.toArray] w fun en w' => en = .returned (.bool true) ∧ Below w.heap.size w w'
set_option maxHeartbeats 2000000 in
set_option maxRecDepth 100000 in
theorem eqfun_any (e : Ex) (ih : ∀ a ∈ e.ar, SSpec a) (B1 B2 : Nat) (cs1 cs2 : List Value) (A2 A4 : Option Addr) (c2 c4 : Nat) (w : World) (hl : e.ar.length ≤ maxLen) (hr1 : Reads w B1 8 A2 e.ar.length cs1) (hi1 : ∀ i (h : i < e.ar.length), ExAt w B1 e.ar[i] ((cs1.drop (i * 8)).take 8)) (hr2 : Reads w B2 8 A4 e.ar.length cs2) (hi2 : ∀ i (h : i < e.ar.length), ExAt w B2 e.ar[i] ((cs2.drop (i * 8)).take 8)) (hB1 : B1 ≤ w.heap.size) (hB2 : B2 ≤ w.heap.size) :
    Calls Tryz.prog 13 #[.slice A2 e.ar.length c2, .slice A4 e.ar.length c4, .func (.func 7) #[] #[]] w fun en w' => en = .returned (.bool true) ∧ Below w.heap.size w w' := by
  have HR1 := Lib.hid (And.intro hr1 hi1)
  have HR2 := Lib.hid (And.intro hr2 hi2)
  have HI := Lib.hid ih
  have hstart : Below w.heap.size w w := Below.refl _ _
  unfold maxLen at hl
  clear hr1 hi1 hr2 hi2 ih
  go_enter Tryz.func13, Tryz.ntmps13
  go_wp2_with fail
  go_loopw [17, 7, 8, 9] (fun i _ _ _ wz => ∃ k : Nat, k ≤ e.ar.length ∧ i = .int .i64 k ∧ Below w.heap.size w wz) (fun i _ _ _ _ => e.ar.length - (intOf i).toNat)
  case atStart => exact ⟨0, Nat.zero_le _, rfl, hstart⟩
  case round =>
    obtain ⟨k, hk, rfl, hbr⟩ := hrel
    have hsr := hbr.size
    have hbr1 := hbr.mono hB1
    have hbr2 := hbr.mono hB2
    by_cases hlt : k < e.ar.length
    · obtain ⟨ad, ci, rfl, hb, hci, hcell⟩ := ExAt.arg (HR1.out.1.below hbr1) (fun i h => (HR1.out.2 i h).keep hbr1) hlt
      obtain ⟨ad2, ci2, rfl, hb2, hci2, hcell2⟩ := ExAt.arg (HR2.out.1.below hbr2) (fun i h => (HR2.out.2 i h).keep hbr2) hlt
      obtain ⟨a, hea⟩ : ∃ a, e.ar[k] = a := ⟨_, rfl⟩
      have ham : a ∈ e.ar := by rw [← hea]; exact List.getElem_mem hlt
      rw [hea] at hci hci2
      have HS := Lib.hid (fun w' h1 h2 h3 h4 => HI.out a ham B1 B2 ci ci2 w' h1 h2 h3 h4)
      have HCI := Lib.hid hci
      have HCI2 := Lib.hid hci2
      have hlti : ((k : Nat) : Int) < ((e.ar.length : Nat) : Int) := by omega
      obtain ⟨hn1, hs1, hl1, ha1, hx1, hr1, hi1⟩ := hci
      rename_i A5 c5 A6 c6 csA
      obtain ⟨hn2, hs2, hl2, ha2, hx2, hr2, hi2⟩ := hci2
      rename_i A7 c7 A8 c8 csB
      have fc0 : wr.cell? (ad.add (k * 8)) = some (.int .i64 a.k) := hcell 0 _ rfl
      have fc1 : wr.cell? ⟨(ad.add (k * 8)).block, (ad.add (k * 8)).off + 1, none⟩ = some (.int .i64 a.op) := hcell 1 _ rfl
      have fc2 : wr.cell? ⟨(ad.add (k * 8)).block, (ad.add (k * 8)).off + 2, none⟩ = some (.string a.nm) := hcell 2 _ rfl
      have fc3 : wr.cell? ⟨(ad.add (k * 8)).block, (ad.add (k * 8)).off + 3, none⟩ = some (.int .i64 a.v.k) := hcell 3 _ rfl
      have fc4 : wr.cell? ⟨(ad.add (k * 8)).block, (ad.add (k * 8)).off + 4, none⟩ = some (.int .i64 a.v.n) := hcell 4 _ rfl
      have fc5 : wr.cell? ⟨(ad.add (k * 8)).block, (ad.add (k * 8)).off + 5, none⟩ = some (.string a.v.s) := hcell 5 _ rfl
      have fc6 : wr.cell? ⟨(ad.add (k * 8)).block, (ad.add (k * 8)).off + 6, none⟩ = some (.slice A5 a.v.l.length c5) := hcell 6 _ rfl
      have fc7 : wr.cell? ⟨(ad.add (k * 8)).block, (ad.add (k * 8)).off + 7, none⟩ = some (.slice A6 a.ar.length c6) := hcell 7 _ rfl
      have HC2 := Lib.hid hcell2
      have HLT := Lib.hid hlt
      clear hx1 hr1 hi1 hx2 hr2 hi2 hcell hcell2 hea ham hb
      go_upto_region 6 with (fail)
      obtain ⟨W1, hW1⟩ : ∃ W1, W1 = wr.alloc (.cells #[.int .i64 a.k, .int .i64 a.op, .string a.nm, .int .i64 a.v.k, .int .i64 a.v.n, .string a.v.s, .slice A5 a.v.l.length c5, .slice A6 a.ar.length c6] 27 (0, 0)) := ⟨_, rfl⟩
      have hb1 : Below wr.heap.size wr W1 := hW1 ▸ (Below.refl _ wr).alloc (Nat.le_refl _) _
      have BA : Blk W1 wr.heap.size 27 #[.int .i64 a.k, .int .i64 a.op, .string a.nm, .int .i64 a.v.k, .int .i64 a.v.n, .string a.v.s, .slice A5 a.v.l.length c5, .slice A6 a.ar.length c6] := hW1 ▸ Blk.new wr _ _
      rw [← hW1]
      clear hW1 fc0 fc1 fc2 fc3 fc4 fc5 fc6 fc7
      have hcell2 : ∀ j u, _ → W1.cell? ((ad2.add (k * 8)).add j) = some u := fun j u hu => Below.cell_of hb1 (HC2.out j u hu)
      have gc0 : W1.cell? (ad2.add (k * 8)) = some (.int .i64 a.k) := hcell2 0 _ rfl
      have gc1 : W1.cell? ⟨(ad2.add (k * 8)).block, (ad2.add (k * 8)).off + 1, none⟩ = some (.int .i64 a.op) := hcell2 1 _ rfl
      have gc2 : W1.cell? ⟨(ad2.add (k * 8)).block, (ad2.add (k * 8)).off + 2, none⟩ = some (.string a.nm) := hcell2 2 _ rfl
      have gc3 : W1.cell? ⟨(ad2.add (k * 8)).block, (ad2.add (k * 8)).off + 3, none⟩ = some (.int .i64 a.v.k) := hcell2 3 _ rfl
      have gc4 : W1.cell? ⟨(ad2.add (k * 8)).block, (ad2.add (k * 8)).off + 4, none⟩ = some (.int .i64 a.v.n) := hcell2 4 _ rfl
      have gc5 : W1.cell? ⟨(ad2.add (k * 8)).block, (ad2.add (k * 8)).off + 5, none⟩ = some (.string a.v.s) := hcell2 5 _ rfl
      have gc6 : W1.cell? ⟨(ad2.add (k * 8)).block, (ad2.add (k * 8)).off + 6, none⟩ = some (.slice A7 a.v.l.length c7) := hcell2 6 _ rfl
      have gc7 : W1.cell? ⟨(ad2.add (k * 8)).block, (ad2.add (k * 8)).off + 7, none⟩ = some (.slice A8 a.ar.length c8) := hcell2 7 _ rfl
      clear hcell2
      go_upto_region 7 with (fail)
      obtain ⟨W2, hW2⟩ : ∃ W2, W2 = W1.alloc (.cells #[.int .i64 a.k, .int .i64 a.op, .string a.nm, .int .i64 a.v.k, .int .i64 a.v.n, .string a.v.s, .slice A7 a.v.l.length c7, .slice A8 a.ar.length c8] 27 (0, 0)) := ⟨_, rfl⟩
      have hb2' : Below W1.heap.size W1 W2 := hW2 ▸ (Below.refl _ W1).alloc (Nat.le_refl _) _
      have BB : Blk W2 W1.heap.size 27 #[.int .i64 a.k, .int .i64 a.op, .string a.nm, .int .i64 a.v.k, .int .i64 a.v.n, .string a.v.s, .slice A7 a.v.l.length c7, .slice A8 a.ar.length c8] := hW2 ▸ Blk.new W1 _ _
      have BA2 := BA.below hb2' BA.lt
      rw [← hW2]
      clear hW2 gc0 gc1 gc2 gc3 gc4 gc5 gc6 gc7 BA
      have hbw2 : Below w.heap.size w W2 := (hbr.trans (hb1.mono hsr)).trans (hb2'.mono (Nat.le_trans hsr hb1.size))
      have hbk : Below wr.heap.size wr W2 := hb1.trans (hb2'.mono hb1.size)
      have xc0 : W2.cell? ⟨wr.heap.size, 0, none⟩ = some (.int .i64 a.k) := BA2.cell 0
      have xc1 : W2.cell? ⟨wr.heap.size, 1, none⟩ = some (.int .i64 a.op) := BA2.cell 1
      have xc2 : W2.cell? ⟨wr.heap.size, 2, none⟩ = some (.string a.nm) := BA2.cell 2
      have xc3 : W2.cell? ⟨wr.heap.size, 3, none⟩ = some (.int .i64 a.v.k) := BA2.cell 3
      have xc4 : W2.cell? ⟨wr.heap.size, 4, none⟩ = some (.int .i64 a.v.n) := BA2.cell 4
      have xc5 : W2.cell? ⟨wr.heap.size, 5, none⟩ = some (.string a.v.s) := BA2.cell 5
      have xc6 : W2.cell? ⟨wr.heap.size, 6, none⟩ = some (.slice A5 a.v.l.length c5) := BA2.cell 6
      have xc7 : W2.cell? ⟨wr.heap.size, 7, none⟩ = some (.slice A6 a.ar.length c6) := BA2.cell 7
      have yc0 : W2.cell? ⟨W1.heap.size, 0, none⟩ = some (.int .i64 a.k) := BB.cell 0
      have yc1 : W2.cell? ⟨W1.heap.size, 1, none⟩ = some (.int .i64 a.op) := BB.cell 1
      have yc2 : W2.cell? ⟨W1.heap.size, 2, none⟩ = some (.string a.nm) := BB.cell 2
      have yc3 : W2.cell? ⟨W1.heap.size, 3, none⟩ = some (.int .i64 a.v.k) := BB.cell 3
      have yc4 : W2.cell? ⟨W1.heap.size, 4, none⟩ = some (.int .i64 a.v.n) := BB.cell 4
      have yc5 : W2.cell? ⟨W1.heap.size, 5, none⟩ = some (.string a.v.s) := BB.cell 5
      have yc6 : W2.cell? ⟨W1.heap.size, 6, none⟩ = some (.slice A7 a.v.l.length c7) := BB.cell 6
      have yc7 : W2.cell? ⟨W1.heap.size, 7, none⟩ = some (.slice A8 a.ar.length c8) := BB.cell 7
      clear BA2 BB hb1 hb2'
      go_wp2_with fail
      refine (HS.out W2 (HCI.out.keep (hbk.mono (Nat.le_trans hB1 hsr))) (HCI2.out.keep (hbk.mono (Nat.le_trans hB2 hsr))) (Nat.le_trans hB1 hbw2.size) (Nat.le_trans hB2 hbw2.size)).mono ?_
      rintro en w3 ⟨rfl, hb3⟩
      have hbw3 := hbw2.trans (hb3.mono hbw2.size)
      clear hb3 hbk hbw2 xc0 xc1 xc2 xc3 xc4 xc5 xc6 xc7 yc0 yc1 yc2 yc3 yc4 yc5 yc6 yc7
      go_wp2_with fail
      go_roundw
      case rel => exact ⟨k + 1, HLT.out, by go_num, hbw3⟩
      case measure =>
        have := HLT.out
        simp [intOf]
        omega
    · have hlti : ¬ ((k : Nat) : Int) < ((e.ar.length : Nat) : Int) := by omega
      go_wp2_with fail
      go_ret
      exact ⟨by rfl, hbr⟩
theorem sameV_self (x : Val) : sameV x x = true := by simp [sameV]
set_option maxHeartbeats 2000000 in
set_option maxRecDepth 100000 in
theorem sameX_any (e : Ex) : SSpec e := by
  induction e using Ex.ind with
  | h e ih =>
    intro B1 B2 cs1 cs2 w hx1 hx2 hB1 hB2
    obtain ⟨hn1, hs1, hl1, ha1, hx1, hr1, hi1⟩ := hx1
    rename_i A1 c1 A2 c2 csA
    obtain ⟨hn2, hs2, hl2, ha2, hx2, hr2, hi2⟩ := hx2
    rename_i A3 c3 A4 c4 csB
    have HE := Lib.hid (fun w' (hb : Below w.heap.size w w') => eqfun_any e ih B1 B2 csA csB A2 A4 c2 c4 w' ha1 (hr1.below (hb.mono hB1)) (fun i h => (hi1 i h).keep (hb.mono hB1)) (hr2.below (hb.mono hB2)) (fun i h => (hi2 i h).keep (hb.mono hB2)) (Nat.le_trans hB1 hb.size) (Nat.le_trans hB2 hb.size))
    have HSM := Lib.hid (fun w' (hb : Below w.heap.size w w') => same_any e.v e.v A1 A3 c1 c3 B1 B2 w' hl1 hl1 (hx1.below (hb.mono hB1)) (hx2.below (hb.mono hB2)) (Nat.le_trans hB1 hb.size) (Nat.le_trans hB2 hb.size))
    rw [sameV_self] at HSM
    clear hx1 hr1 hi1 hx2 hr2 hi2 ih
    show Calls Tryz.prog 7 #[.agg #[.int .i64 e.k, .int .i64 e.op, .string e.nm, .int .i64 e.v.k, .int .i64 e.v.n, .string e.v.s, .slice A1 e.v.l.length c1, .slice A2 e.ar.length c2], .agg #[.int .i64 e.k, .int .i64 e.op, .string e.nm, .int .i64 e.v.k, .int .i64 e.v.n, .string e.v.s, .slice A3 e.v.l.length c3, .slice A4 e.ar.length c4]] w _
    go_enter Tryz.func7, Tryz.ntmps7
    go_upto_region 1 with (fail)
    obtain ⟨W1, hW1⟩ : ∃ W1, W1 = w.alloc (.cells #[.int .i64 e.k, .int .i64 e.op, .string e.nm, .int .i64 e.v.k, .int .i64 e.v.n, .string e.v.s, .slice A1 e.v.l.length c1, .slice A2 e.ar.length c2] 27 (0, 0)) := ⟨_, rfl⟩
    obtain ⟨W2, hW2⟩ : ∃ W2, W2 = W1.alloc (.cells #[.int .i64 e.k, .int .i64 e.op, .string e.nm, .int .i64 e.v.k, .int .i64 e.v.n, .string e.v.s, .slice A3 e.v.l.length c3, .slice A4 e.ar.length c4] 27 (0, 0)) := ⟨_, rfl⟩
    have hsz1 : W1.heap.size = w.heap.size + 1 := by rw [hW1]; simp
    have BA : Blk W2 w.heap.size 27 #[.int .i64 e.k, .int .i64 e.op, .string e.nm, .int .i64 e.v.k, .int .i64 e.v.n, .string e.v.s, .slice A1 e.v.l.length c1, .slice A2 e.ar.length c2] := by rw [hW2, hW1]; exact (Blk.new w _ _).alloc _
    have BB : Blk W2 (w.heap.size + 1) 27 #[.int .i64 e.k, .int .i64 e.op, .string e.nm, .int .i64 e.v.k, .int .i64 e.v.n, .string e.v.s, .slice A3 e.v.l.length c3, .slice A4 e.ar.length c4] := by rw [hW2, ← hsz1]; exact Blk.new W1 _ _
    have hbw : Below w.heap.size w W2 := by rw [hW2, hW1]; exact ((Below.refl _ w).alloc (Nat.le_refl _) _).alloc (by simp) _
    rw [← hW1, ← hW2]
    clear hW1 hW2
    have xc0 : W2.cell? ⟨w.heap.size, 0, none⟩ = some (.int .i64 e.k) := BA.cell 0
    have xc1 : W2.cell? ⟨w.heap.size, 1, none⟩ = some (.int .i64 e.op) := BA.cell 1
    have xc2 : W2.cell? ⟨w.heap.size, 2, none⟩ = some (.string e.nm) := BA.cell 2
    have xc3 : W2.cell? ⟨w.heap.size, 3, none⟩ = some (.int .i64 e.v.k) := BA.cell 3
    have xc4 : W2.cell? ⟨w.heap.size, 4, none⟩ = some (.int .i64 e.v.n) := BA.cell 4
    have xc5 : W2.cell? ⟨w.heap.size, 5, none⟩ = some (.string e.v.s) := BA.cell 5
    have xc6 : W2.cell? ⟨w.heap.size, 6, none⟩ = some (.slice A1 e.v.l.length c1) := BA.cell 6
    have xc7 : W2.cell? ⟨w.heap.size, 7, none⟩ = some (.slice A2 e.ar.length c2) := BA.cell 7
    have yc0 : W2.cell? ⟨(w.heap.size + 1), 0, none⟩ = some (.int .i64 e.k) := BB.cell 0
    have yc1 : W2.cell? ⟨(w.heap.size + 1), 1, none⟩ = some (.int .i64 e.op) := BB.cell 1
    have yc2 : W2.cell? ⟨(w.heap.size + 1), 2, none⟩ = some (.string e.nm) := BB.cell 2
    have yc3 : W2.cell? ⟨(w.heap.size + 1), 3, none⟩ = some (.int .i64 e.v.k) := BB.cell 3
    have yc4 : W2.cell? ⟨(w.heap.size + 1), 4, none⟩ = some (.int .i64 e.v.n) := BB.cell 4
    have yc5 : W2.cell? ⟨(w.heap.size + 1), 5, none⟩ = some (.string e.v.s) := BB.cell 5
    have yc6 : W2.cell? ⟨(w.heap.size + 1), 6, none⟩ = some (.slice A3 e.v.l.length c3) := BB.cell 6
    have yc7 : W2.cell? ⟨(w.heap.size + 1), 7, none⟩ = some (.slice A4 e.ar.length c4) := BB.cell 7
    go_wp2_with fail
    refine (HSM.out W2 hbw).mono ?_
    rintro en w3 ⟨rfl, hb3⟩
    have hbw3 := hbw.trans (hb3.mono hbw.size)
    have BA3 := BA.below hb3 BA.lt
    have BB3 := BB.below hb3 BB.lt
    clear xc0 xc1 xc2 xc3 xc4 xc5 xc6 xc7 yc0 yc1 yc2 yc3 yc4 yc5 yc6 yc7 BA BB hb3 hbw
    have xc0 : w3.cell? ⟨w.heap.size, 0, none⟩ = some (.int .i64 e.k) := BA3.cell 0
    have xc1 : w3.cell? ⟨w.heap.size, 1, none⟩ = some (.int .i64 e.op) := BA3.cell 1
    have xc2 : w3.cell? ⟨w.heap.size, 2, none⟩ = some (.string e.nm) := BA3.cell 2
    have xc3 : w3.cell? ⟨w.heap.size, 3, none⟩ = some (.int .i64 e.v.k) := BA3.cell 3
    have xc4 : w3.cell? ⟨w.heap.size, 4, none⟩ = some (.int .i64 e.v.n) := BA3.cell 4
    have xc5 : w3.cell? ⟨w.heap.size, 5, none⟩ = some (.string e.v.s) := BA3.cell 5
    have xc6 : w3.cell? ⟨w.heap.size, 6, none⟩ = some (.slice A1 e.v.l.length c1) := BA3.cell 6
    have xc7 : w3.cell? ⟨w.heap.size, 7, none⟩ = some (.slice A2 e.ar.length c2) := BA3.cell 7
    have yc0 : w3.cell? ⟨(w.heap.size + 1), 0, none⟩ = some (.int .i64 e.k) := BB3.cell 0
    have yc1 : w3.cell? ⟨(w.heap.size + 1), 1, none⟩ = some (.int .i64 e.op) := BB3.cell 1
    have yc2 : w3.cell? ⟨(w.heap.size + 1), 2, none⟩ = some (.string e.nm) := BB3.cell 2
    have yc3 : w3.cell? ⟨(w.heap.size + 1), 3, none⟩ = some (.int .i64 e.v.k) := BB3.cell 3
    have yc4 : w3.cell? ⟨(w.heap.size + 1), 4, none⟩ = some (.int .i64 e.v.n) := BB3.cell 4
    have yc5 : w3.cell? ⟨(w.heap.size + 1), 5, none⟩ = some (.string e.v.s) := BB3.cell 5
    have yc6 : w3.cell? ⟨(w.heap.size + 1), 6, none⟩ = some (.slice A3 e.v.l.length c3) := BB3.cell 6
    have yc7 : w3.cell? ⟨(w.heap.size + 1), 7, none⟩ = some (.slice A4 e.ar.length c4) := BB3.cell 7
    go_wp2_with fail
    refine (HE.out w3 hbw3).mono ?_
    rintro en w4 ⟨rfl, hb4⟩
    go_wp2_with fail
    go_ret
    exact ⟨by rfl, hbw3.trans (hb4.mono hbw3.size)⟩
end Go.Proofs.YtobanldeicclmaaGreatDoor
namespace Go.Proofs.YtobanldeicclmaaGreatDoor.Limb
def B : Nat := 1000000000
def Small (l : List Nat) : Prop := ∀ x ∈ l, x < 1000000000
theorem Small.nil : Small [] := fun x h => by cases h
theorem Small.append {l r : List Nat} (h : Small l) (h' : Small r) : Small (l ++ r) := fun x hx => by
  rcases List.mem_append.1 hx with hx | hx
  · exact h x hx
  · exact h' x hx
theorem Small.snoc {l : List Nat} {x : Nat} (h : Small l) (hx : x < 1000000000) : Small (l ++ [x]) := h.append fun y hy => by simp at hy; omega
theorem Small.take {l : List Nat} (h : Small l) (k : Nat) : Small (l.take k) := fun x hx => h x (List.mem_of_mem_take hx)
theorem Small.drop {l : List Nat} (h : Small l) (k : Nat) : Small (l.drop k) := fun x hx => h x (List.mem_of_mem_drop hx)
theorem Small.at_ {l : List Nat} (h : Small l) {k : Nat} (hk : k < l.length) : l[k] < 1000000000 := h _ (List.getElem_mem hk)
end Go.Proofs.YtobanldeicclmaaGreatDoor.Limb
namespace Go.Proofs.YtobanldeicclmaaGreatDoor.Dig
open Limb
def isDig (b : UInt8) : Prop := 48 ≤ b.toNat ∧ b.toNat ≤ 57
def digVal (l : List UInt8) : Nat := l.foldl (fun n b => n * 10 + (b.toNat - 48)) 0
theorem foldl_dig (l : List UInt8) (n : Nat) : l.foldl (fun n b => n * 10 + (b.toNat - 48)) n = n * 10 ^ l.length + digVal l := by
  induction l generalizing n with
  | nil => simp [digVal]
  | cons b l ih =>
    have e : digVal (b :: l) = (b.toNat - 48) * 10 ^ l.length + digVal l := by
      unfold digVal
      rw [List.foldl_cons, ih, Nat.zero_mul, Nat.zero_add]
      rfl
    rw [List.foldl_cons, ih, e, List.length_cons, Nat.pow_succ, Nat.add_mul]
    have : n * 10 * 10 ^ l.length = n * (10 ^ l.length * 10) := by rw [Nat.mul_assoc, Nat.mul_comm 10]
    omega
theorem digVal_append (a b : List UInt8) : digVal (a ++ b) = digVal a * 10 ^ b.length + digVal b := by
  have := foldl_dig b (digVal a)
  unfold digVal at *
  rw [List.foldl_append, this]
theorem digVal_cons (b : UInt8) (l : List UInt8) : digVal (b :: l) = (b.toNat - 48) * 10 ^ l.length + digVal l := by
  have := digVal_append [b] l
  simpa [digVal] using this
theorem digVal_snoc (l : List UInt8) (b : UInt8) : digVal (l ++ [b]) = digVal l * 10 + (b.toNat - 48) := by
  simp [digVal]
theorem ofNat_dig {k : Nat} (h : k < 10) : (UInt8.ofNat (48 + k)).toNat = 48 + k := by
  rw [UInt8.toNat_ofNat']; omega
theorem digVal_dec (u : Nat) : digVal (Lib.decDigits u) = u := by
  induction u using Nat.strongRecOn with
  | _ u ih =>
    rw [Lib.decDigits]
    by_cases h : u < 10
    · rw [dif_pos h]
      simp only [digVal, List.foldl_cons, List.foldl_nil, ofNat_dig h]
      omega
    · rw [dif_neg h, digVal_snoc, ih (u / 10) (by omega), ofNat_dig (Nat.mod_lt _ (by omega))]
      omega
theorem dig_dec (u : Nat) : ∀ b ∈ Lib.decDigits u, isDig b := by
  induction u using Nat.strongRecOn with
  | _ u ih =>
    rw [Lib.decDigits]
    by_cases h : u < 10
    · rw [dif_pos h]
      intro b hb
      rw [List.mem_singleton.1 hb]
      unfold isDig
      rw [ofNat_dig h]
      omega
    · rw [dif_neg h]
      intro b hb
      rcases List.mem_append.1 hb with hb | hb
      · exact ih (u / 10) (by omega) b hb
      · rw [List.mem_singleton.1 hb]
        unfold isDig
        rw [ofNat_dig (Nat.mod_lt _ (by omega))]
        omega
theorem dec_len (k u : Nat) (h : u < 10 ^ (k + 1)) : (Lib.decDigits u).length ≤ k + 1 := by
  induction k generalizing u with
  | zero => rw [Lib.decDigits, dif_pos (by simpa using h)]; simp
  | succ k ih =>
    rw [Lib.decDigits]
    by_cases h0 : u < 10
    · rw [dif_pos h0]; simp
    · rw [dif_neg h0, List.length_append]
      have := ih (u / 10) (by rw [Nat.pow_succ] at h; omega)
      simp
      omega
theorem dec_pos (u : Nat) : 0 < (Lib.decDigits u).length := by
  rw [Lib.decDigits]
  split <;> simp
def zeros (k : Nat) : List UInt8 := List.replicate k 48
theorem digVal_zeros (k : Nat) (l : List UInt8) : digVal (zeros k ++ l) = digVal l := by
  induction k with
  | zero => rfl
  | succ k ih =>
    rw [zeros, List.replicate_succ, List.cons_append, digVal_cons]
    rw [show List.replicate k 48 ++ l = zeros k ++ l from rfl, ih]
    simp
theorem dig_zeros (k : Nat) : ∀ b ∈ zeros k, isDig b := fun b hb => by
  rw [(List.mem_replicate.1 hb).2]
  unfold isDig
  decide
end Go.Proofs.YtobanldeicclmaaGreatDoor.Dig
