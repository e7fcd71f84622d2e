/- The walks of measure and of CheckExpr in both packages. · Maps with string keys whose elements are known to the letter; lists of strings in memory; Equal, Contains and Clone of such lists. · Cells and loops of a scene: as they lie in memory, what is wrong with them, and the maps that a world holds. · The walk of nested: is a list empty, or the loops and the name of a loop. -/
import Derived.Test.YtpanbeoelbhhgaaGreatDoorY10
import Derived.Maps.OwnSet
import Derived.StringKeys
import Derived.Deep.RegionHeld3
import Derived.Deep.DrawnRows
import Derived.IntWalk
namespace Go.Proofs.YtpanbeoelbhhgaaGreatDoor
open Go.RowKit
/-- a world in which, of what was there, two blocks alone may have turned -/
structure Two (w w' : World) (p d : Nat) : Prop where
  os : w'.os = w.os
  tape : w'.tape = w.tape
  output : w'.output = w.output
  size : w.heap.size ≤ w'.heap.size
  block : ∀ i, i < w.heap.size → i ≠ p → i ≠ d → w'.heap[i]? = w.heap[i]?
theorem Two.refl (w : World) (p d : Nat) : Two w w p d := ⟨rfl, rfl, rfl, Nat.le_refl _, fun _ _ _ _ => rfl⟩
theorem Two.trans {a b c : World} {p d : Nat} (h : Two a b p d) (k : Two b c p d) : Two a c p d :=
  ⟨k.os.trans h.os, k.tape.trans h.tape, k.output.trans h.output, Nat.le_trans h.size k.size, fun i hi h1 h2 => (k.block i (Nat.lt_of_lt_of_le hi h.size) h1 h2).trans (h.block i hi h1 h2)⟩
theorem Two.alloc {a w : World} {p d : Nat} (h : Two a w p d) (o : Obj) : Two a (w.alloc o) p d :=
  ⟨h.os, h.tape, h.output, by rw [World.size_alloc]; exact Nat.le_succ_of_le h.size, fun i hi h1 h2 => (Below.heap_alloc w o i (Nat.lt_of_lt_of_le hi h.size)).trans (h.block i hi h1 h2)⟩
theorem Two.set {a w : World} {p d : Nat} (h : Two a w p d) {q : Addr} (hq : q.block = p ∨ q.block = d) (u : Value) : Two a (w.setCell q u) p d :=
  ⟨h.os, h.tape, h.output, by show _ ≤ (w.setCell q u).heap.size; simp [World.setCell]; exact h.size, fun i hi h1 h2 => (Below.heap_setCell w q u i (by rcases hq with e | e <;> rw [e] <;> assumption)).trans (h.block i hi h1 h2)⟩
theorem Two.below {w w' : World} {p d B : Nat} (h : Two w w' p d) (hp : B ≤ p) (hd : B ≤ d) (hB : B ≤ w.heap.size) : Below B w w' :=
  ⟨h.os, h.tape, h.output, h.size, fun i hi => h.block i (by omega) (by omega) (by omega)⟩
theorem Blk.two {w w' : World} {p d g : Nat} {t : TypeId} {cs : Array Value} (h : Blk w g t cs) (ht : Two w w' p d) (h1 : g ≠ p) (h2 : g ≠ d) : Blk w' g t cs := (ht.block g h.lt h1 h2).trans h
theorem meas_le1 (e : Ex) : ∀ lv (s : Nat × Nat), (e.meas lv s).1 ≤ s.1 + e.parts := by
  induction e using Ex.ind with
  | h e ih =>
    intro lv s
    rw [meas_eq, parts_eq]
    split
    · show s.1 + 1 ≤ _; omega
    · have : ∀ (l : List Ex), (∀ a ∈ l, a ∈ e.ar) → ∀ s : Nat × Nat, (measL l (lv + 1) s).1 ≤ s.1 + partsL l := by
        intro l
        induction l with
        | nil => intro _ s; rw [measL, partsL]; exact Nat.le_refl _
        | cons a r ih2 =>
          intro h s
          have h1 := ih a (h a (List.mem_cons_self ..)) (lv + 1) s
          have h2 := ih2 (fun b hb => h b (List.mem_cons_of_mem _ hb)) (a.meas (lv + 1) s)
          rw [measL, partsL]
          omega
      have := this e.ar (fun a ha => ha) (s.1 + 1, max s.2 lv)
      simp only at this
      omega
theorem meas_le2 (e : Ex) : ∀ lv (s : Nat × Nat), lv ≤ 21 → s.2 ≤ 21 → (e.meas lv s).2 ≤ 21 := by
  induction e using Ex.ind with
  | h e ih =>
    intro lv s h1 h2
    rw [meas_eq]
    split
    · show max s.2 lv ≤ _; omega
    · rename_i hc
      have : ∀ (l : List Ex), (∀ a ∈ l, a ∈ e.ar) → ∀ s : Nat × Nat, s.2 ≤ 21 → (measL l (lv + 1) s).2 ≤ 21 := by
        intro l
        induction l with
        | nil => intro _ s hs; rw [measL]; exact hs
        | cons a r ih2 =>
          intro h s hs
          rw [measL]
          exact ih2 (fun b hb => h b (List.mem_cons_of_mem _ hb)) _ (ih a (h a (List.mem_cons_self ..)) (lv + 1) s (by omega) hs)
      exact this e.ar (fun a ha => ha) _ (by show max s.2 lv ≤ _; omega)
theorem measL_snoc (a : Ex) (lv : Nat) : ∀ (l : List Ex) (s : Nat × Nat), measL (l ++ [a]) lv s = a.meas lv (measL l lv s)
  | [], s => by rw [List.nil_append, measL, measL, measL]
  | b :: r, s => by rw [List.cons_append, measL, measL, measL_snoc a lv r]
theorem measL_take1 (l : List Ex) (lv : Nat) (s : Nat × Nat) : ∀ k, (measL (l.take k) lv s).1 ≤ s.1 + partsL (l.take k) := by
  intro k
  have : ∀ (l : List Ex) (s : Nat × Nat), (measL l lv s).1 ≤ s.1 + partsL l := by
    intro l
    induction l with
    | nil => intro s; rw [measL, partsL]; exact Nat.le_refl _
    | cons a r ih =>
      intro s
      have h1 := meas_le1 a lv s
      have h2 := ih (a.meas lv s)
      rw [measL, partsL]
      omega
  exact this _ s
theorem measL_take2 (l : List Ex) (lv : Nat) (s : Nat × Nat) (h1 : lv ≤ 21) (h2 : s.2 ≤ 21) : ∀ k, (measL (l.take k) lv s).2 ≤ 21 := by
  intro k
  have : ∀ (l : List Ex) (s : Nat × Nat), s.2 ≤ 21 → (measL l lv s).2 ≤ 21 := by
    intro l
    induction l with
    | nil => intro s hs; rw [measL]; exact hs
    | cons a r ih =>
      intro s hs
      rw [measL]
      exact ih _ (meas_le2 a lv s h1 hs)
  exact this _ s h2
/-- what measure leaves -/
structure MeR (en : Ending) (w w' : World) (pb db : Nat) (s : Nat × Nat) : Prop where
  he : ∃ v, en = .returned v
  two : Two w w' pb db
  hp : Blk w' pb 3 #[.int .i64 (s.1 : Nat)]
  hd : Blk w' db 3 #[.int .i64 (s.2 : Nat)]
set_option maxHeartbeats 4000000 in
set_option maxRecDepth 100000 in
theorem measure_any (e : Ex) : ∀ (B pb db : Nat) (cs : List Value) (lv p d : Nat) (w : World), ExAt w B e cs → B ≤ w.heap.size → B ≤ pb → B ≤ db → pb ≠ db → Blk w pb 3 #[.int .i64 (p : Nat)] → Blk w db 3 #[.int .i64 (d : Nat)] →
    lv ≤ 21 → d ≤ 21 → p + e.parts ≤ 1000000000000 →
    Calls Tryz.prog 37 #[.agg cs.toArray, .int .i64 (lv : Nat), .pointer (some ⟨pb, 0, none⟩), .pointer (some ⟨db, 0, none⟩)] w fun en w' => MeR en w w' pb db (e.meas lv (p, d)) := by
  induction e using Ex.ind with
  | h e ih =>
    rintro B pb db cs lv p d w hx hB hpb hdb hne Bp Bd hlv hd hp
    obtain ⟨hn, hs, hl, ha, hx, hr, hi⟩ := hx
    rename_i A c A' c' cs
    have HR := Lib.hid (And.intro hr hi)
    have HI := Lib.hid ih
    have hpe := parts_eq e
    have hp1 : p + 1 ≤ 1000000000000 := by omega
    have HME := Lib.hid (meas_eq e lv (p, d))
    unfold maxLen at ha
    clear hr hi ih hx
    show Calls Tryz.prog 37 #[.agg #[.int .i64 e.k, .int .i64 e.op, .string e.nm, .int .i64 e.v.k, .int .i64 e.v.n, .string e.v.s, .slice A e.v.l.length c, .slice A' e.ar.length c'], .int .i64 (lv : Nat), .pointer (some ⟨pb, 0, none⟩), .pointer (some ⟨db, 0, none⟩)] w _
    go_enter Tryz.func37, Tryz.ntmps37
    go_upto_region 1 with (fail)
    obtain ⟨W, hW⟩ : ∃ W, W = w.alloc (.cells #[.int .i64 e.k, .int .i64 e.op, .string e.nm, .int .i64 e.v.k, .int .i64 e.v.n, .string e.v.s, .slice A e.v.l.length c, .slice A' e.ar.length c'] 27 (0, 0)) := ⟨_, rfl⟩
    have B0 : Blk W w.heap.size 27 #[.int .i64 e.k, .int .i64 e.op, .string e.nm, .int .i64 e.v.k, .int .i64 e.v.n, .string e.v.s, .slice A e.v.l.length c, .slice A' e.ar.length c'] := hW ▸ Blk.new w _ _
    have hpl := Bp.lt
    have hdl := Bd.lt
    have Bp := (hW ▸ Bp.alloc _ : Blk W pb 3 #[.int .i64 (p : Nat)])
    have Bd := (hW ▸ Bd.alloc _ : Blk W db 3 #[.int .i64 (d : Nat)])
    have T0 : Two w W pb db := hW ▸ (Two.refl w pb db).alloc _
    rw [← hW]
    clear hW
    have HPE := Lib.hid hpe
    clear hpe
    have pc : W.cell? ⟨pb, 0, none⟩ = some (.int .i64 (p : Nat)) := Bp.cell 0
    have pz : W.frozen? ⟨pb, 0, none⟩ = false := Bp.frozen 0
    have dc : W.cell? ⟨db, 0, none⟩ = some (.int .i64 (d : Nat)) := Bd.cell 0
    have dz : W.frozen? ⟨db, 0, none⟩ = false := Bd.frozen 0
    have rc0 : W.cell? ⟨w.heap.size, 0, none⟩ = some (.int .i64 e.k) := B0.cell 0
    have rc1 : W.cell? ⟨w.heap.size, 1, none⟩ = some (.int .i64 e.op) := B0.cell 1
    have rc2 : W.cell? ⟨w.heap.size, 2, none⟩ = some (.string e.nm) := B0.cell 2
    have rc3 : W.cell? ⟨w.heap.size, 3, none⟩ = some (.int .i64 e.v.k) := B0.cell 3
    have rc4 : W.cell? ⟨w.heap.size, 4, none⟩ = some (.int .i64 e.v.n) := B0.cell 4
    have rc5 : W.cell? ⟨w.heap.size, 5, none⟩ = some (.string e.v.s) := B0.cell 5
    have rc6 : W.cell? ⟨w.heap.size, 6, none⟩ = some (.slice A e.v.l.length c) := B0.cell 6
    have rc7 : W.cell? ⟨w.heap.size, 7, none⟩ = some (.slice A' e.ar.length c') := B0.cell 7
    go_upto_region 2 with (fail)
    obtain ⟨W1, hW1⟩ : ∃ W1, W1 = W.setCell ⟨pb, 0, none⟩ (.int .i64 ((p : Int) + 1)) := ⟨_, rfl⟩
    have B0 : Blk W1 w.heap.size 27 #[.int .i64 e.k, .int .i64 e.op, .string e.nm, .int .i64 e.v.k, .int .i64 e.v.n, .string e.v.s, .slice A e.v.l.length c, .slice A' e.ar.length c'] := hW1 ▸ B0.far (p := ⟨pb, 0, none⟩) (by show w.heap.size ≠ pb; omega) _
    have Bp : Blk W1 pb 3 #[.int .i64 ((p : Int) + 1)] := hW1 ▸ Bp.set_ 0 _
    have Bd : Blk W1 db 3 #[.int .i64 (d : Nat)] := hW1 ▸ Bd.far (p := ⟨pb, 0, none⟩) (by show db ≠ pb; omega) _
    have T1 : Two w W1 pb db := hW1 ▸ T0.set (q := ⟨pb, 0, none⟩) (.inl rfl) _
    rw [← hW1]
    clear hW1 T0 pc pz dc dz rc0 rc1 rc2 rc3 rc4 rc5 rc6 rc7
    have pc : W1.cell? ⟨pb, 0, none⟩ = some (.int .i64 ((p : Int) + 1)) := Bp.cell 0
    have dc : W1.cell? ⟨db, 0, none⟩ = some (.int .i64 (d : Nat)) := Bd.cell 0
    have dz : W1.frozen? ⟨db, 0, none⟩ = false := Bd.frozen 0
    go_upto_region 3 with (fail)
    obtain ⟨W2, hW2⟩ : ∃ W2, W2 = W1.setCell ⟨db, 0, none⟩ (.int .i64 (max (d : Int) (lv : Int))) := ⟨_, rfl⟩
    have B0 : Blk W2 w.heap.size 27 #[.int .i64 e.k, .int .i64 e.op, .string e.nm, .int .i64 e.v.k, .int .i64 e.v.n, .string e.v.s, .slice A e.v.l.length c, .slice A' e.ar.length c'] := hW2 ▸ B0.far (p := ⟨db, 0, none⟩) (by show w.heap.size ≠ db; omega) _
    have Bp : Blk W2 pb 3 #[.int .i64 ((p : Int) + 1)] := hW2 ▸ Bp.far (p := ⟨db, 0, none⟩) (by show pb ≠ db; omega) _
    have Bd : Blk W2 db 3 #[.int .i64 (max (d : Int) (lv : Int))] := hW2 ▸ Bd.set_ 0 _
    have T2 : Two w W2 pb db := hW2 ▸ T1.set (q := ⟨db, 0, none⟩) (.inr rfl) _
    rw [← hW2]
    clear hW2 T1 pc dc dz
    have Bp : Blk W2 pb 3 #[.int .i64 ((p + 1 : Nat) : Int)] := by rw [show ((p + 1 : Nat) : Int) = (p : Int) + 1 from by omega]; exact Bp
    have Bd : Blk W2 db 3 #[.int .i64 ((max d lv : Nat) : Int)] := by rw [show ((max d lv : Nat) : Int) = max (d : Int) (lv : Int) from by omega]; exact Bd
    have pc : W2.cell? ⟨pb, 0, none⟩ = some (.int .i64 ((p + 1 : Nat) : Int)) := Bp.cell 0
    obtain ⟨q, hq⟩ : ∃ q, p + 1 = q := ⟨_, rfl⟩
    obtain ⟨g, hg⟩ : ∃ g, max d lv = g := ⟨_, rfl⟩
    have hgl : g ≤ 21 := by omega
    rw [hq] at Bp pc hp1
    rw [hg] at Bd
    have HM2 := Lib.hid (show e.meas lv (p, d) = if 300 < q ∨ 20 < lv then (q, g) else measL e.ar (lv + 1) (q, g) by rw [HME.out, ← hq, ← hg])
    have hqp : q + partsL e.ar ≤ 1000000000000 := by have := HPE.out; omega
    clear HME HPE hq hg
    by_cases h3 : 300 < q
    · have b3 : decide ((300 : Int) < (q : Nat)) = true := by simp; omega
      have HG := Lib.hid (HM2.out.trans (if_pos (.inl h3)))
      clear h3
      go_wp2
      refine bodyPost_ret (v := .tuple #[]) (by simp [results, Tryz.results37, go_sem]) rfl ⟨⟨_, rfl⟩, T2, ?_, ?_⟩
      · rw [HG.out]; exact Bp
      · rw [HG.out]; exact Bd
    have b3 : decide ((300 : Int) < (q : Nat)) = false := by simp; omega
    by_cases h20 : 20 < lv
    · have b20 : decide ((20 : Int) < (lv : Nat)) = true := by simp; omega
      have HG := Lib.hid (HM2.out.trans (if_pos (.inr h20)))
      clear h3 h20
      go_wp2
      refine bodyPost_ret (v := .tuple #[]) (by simp [results, Tryz.results37, go_sem]) rfl ⟨⟨_, rfl⟩, T2, ?_, ?_⟩
      · rw [HG.out]; exact Bp
      · rw [HG.out]; exact Bd
    have b20 : decide ((20 : Int) < (lv : Nat)) = false := by simp; omega
    have HG := Lib.hid (HM2.out.trans (if_neg (by omega)))
    have hl20 : lv ≤ 20 := by omega
    clear h3 h20 HM2 pc
    have pc : W2.cell? ⟨pb, 0, none⟩ = some (.int .i64 (q : Nat)) := Bp.cell 0
    have rc0 : W2.cell? ⟨w.heap.size, 0, none⟩ = some (.int .i64 e.k) := B0.cell 0
    have rc1 : W2.cell? ⟨w.heap.size, 1, none⟩ = some (.int .i64 e.op) := B0.cell 1
    have rc2 : W2.cell? ⟨w.heap.size, 2, none⟩ = some (.string e.nm) := B0.cell 2
    have rc3 : W2.cell? ⟨w.heap.size, 3, none⟩ = some (.int .i64 e.v.k) := B0.cell 3
    have rc4 : W2.cell? ⟨w.heap.size, 4, none⟩ = some (.int .i64 e.v.n) := B0.cell 4
    have rc5 : W2.cell? ⟨w.heap.size, 5, none⟩ = some (.string e.v.s) := B0.cell 5
    have rc6 : W2.cell? ⟨w.heap.size, 6, none⟩ = some (.slice A e.v.l.length c) := B0.cell 6
    have rc7 : W2.cell? ⟨w.heap.size, 7, none⟩ = some (.slice A' e.ar.length c') := B0.cell 7
    go_wp2
    have HBp := Lib.hid Bp
    have HBd := Lib.hid Bd
    clear pc rc0 rc1 rc2 rc3 rc4 rc5 rc6 rc7 Bp Bd B0
    go_loopw [33] (fun i wr => ∃ (k : Nat), k ≤ e.ar.length ∧ i = .int .i64 k ∧ Two w wr pb db ∧ Hid (Blk wr pb 3 #[.int .i64 ((measL (e.ar.take k) (lv + 1) (q, g)).1 : Nat)] ∧ Blk wr db 3 #[.int .i64 ((measL (e.ar.take k) (lv + 1) (q, g)).2 : Nat)])) (fun i _ => e.ar.length - (intOf i).toNat)
    case atStart => exact ⟨0, Nat.zero_le _, rfl, T2, Lib.hid ⟨HBp.out, HBd.out⟩⟩
    case round =>
      obtain ⟨k, hk, rfl, hbr, HBB⟩ := hrel
      clear HBp HBd T2
      have hsr := hbr.size
      have hbr0 := hbr.below hpb hdb hB
      by_cases hlt : k < e.ar.length
      · obtain ⟨ad, ci, rfl, hb, hci, hcell⟩ := ExAt.arg (HR.out.1.below hbr0) (fun i h => (HR.out.2 i h).keep hbr0) hlt
        obtain ⟨a, hea⟩ : ∃ a, e.ar[k] = a := ⟨_, rfl⟩
        have ham : a ∈ e.ar := by rw [← hea]; exact List.getElem_mem hlt
        obtain ⟨P, hP⟩ : ∃ P, measL (e.ar.take k) (lv + 1) (q, g) = P := ⟨_, rfl⟩
        obtain ⟨P1, P2⟩ := P
        have HS := Lib.hid (show measL (e.ar.take (k + 1)) (lv + 1) (q, g) = a.meas (lv + 1) (P1, P2) by
          rw [List.take_succ_eq_append_getElem hlt, measL_snoc, hea, hP])
        have hq1 : P1 + a.parts ≤ 1000000000000 := by
          have h1 := measL_take1 e.ar (lv + 1) (q, g) k
          rw [hP] at h1
          have h2 : partsL (e.ar.take k) + a.parts = partsL (e.ar.take (k + 1)) := by rw [List.take_succ_eq_append_getElem hlt, partsL_snoc, hea]
          have h3 := partsL_take e.ar (k + 1)
          simp only at h1
          omega
        have hq2 : P2 ≤ 21 := by
          have h1 := measL_take2 e.ar (lv + 1) (q, g) (by omega) hgl k
          rw [hP] at h1
          exact h1
        have HLT := Lib.hid hlt
        rw [hP] at HBB
        rw [hea] at hci
        have HCI := Lib.hid hci
        have HI1 := Lib.hid (fun w' h1 h2 h3 h4 => HI.out a ham B pb db ci (lv + 1) P1 P2 w' h1 h2 hpb hdb hne h3 h4 (by omega) hq2 hq1)
        obtain ⟨hn1, hs1, hl1, ha1, hx1, hr1, hi1⟩ := hci
        rename_i A1 c1 A1' c1' cs1
        have fc0 : wr.cell? (ad.add (k * 8)) = some (.int .i64 a.k) := hcell 0 _ rfl
        have fc1 : wr.cell? ⟨(ad.add (k * 8)).block, (ad.add (k * 8)).off + 1, none⟩ = some (.int .i64 a.op) := hcell 1 _ rfl
        have fc2 : wr.cell? ⟨(ad.add (k * 8)).block, (ad.add (k * 8)).off + 2, none⟩ = some (.string a.nm) := hcell 2 _ rfl
        have fc3 : wr.cell? ⟨(ad.add (k * 8)).block, (ad.add (k * 8)).off + 3, none⟩ = some (.int .i64 a.v.k) := hcell 3 _ rfl
        have fc4 : wr.cell? ⟨(ad.add (k * 8)).block, (ad.add (k * 8)).off + 4, none⟩ = some (.int .i64 a.v.n) := hcell 4 _ rfl
        have fc5 : wr.cell? ⟨(ad.add (k * 8)).block, (ad.add (k * 8)).off + 5, none⟩ = some (.string a.v.s) := hcell 5 _ rfl
        have fc6 : wr.cell? ⟨(ad.add (k * 8)).block, (ad.add (k * 8)).off + 6, none⟩ = some (.slice A1 a.v.l.length c1) := hcell 6 _ rfl
        have fc7 : wr.cell? ⟨(ad.add (k * 8)).block, (ad.add (k * 8)).off + 7, none⟩ = some (.slice A1' a.ar.length c1') := hcell 7 _ rfl
        clear hx1 hr1 hi1 hcell hea ham hP hq1
        go_wp2_with fail
        obtain ⟨W3, hW3⟩ : ∃ W3, W3 = wr.alloc (.cells #[.int .i64 a.k, .int .i64 a.op, .string a.nm, .int .i64 a.v.k, .int .i64 a.v.n, .string a.v.s, .slice A1 a.v.l.length c1, .slice A1' a.ar.length c1'] 27 (0, 0)) := ⟨_, rfl⟩
        have T3 : Two w W3 pb db := hW3 ▸ hbr.alloc _
        have Bp3 : Blk W3 pb 3 #[.int .i64 (P1 : Nat)] := hW3 ▸ HBB.out.1.alloc _
        have Bd3 : Blk W3 db 3 #[.int .i64 (P2 : Nat)] := hW3 ▸ HBB.out.2.alloc _
        have hbW : Below wr.heap.size wr W3 := hW3 ▸ (Below.refl _ wr).alloc (Nat.le_refl _) _
        rw [← hW3]
        clear hW3 fc0 fc1 fc2 fc3 fc4 fc5 fc6 fc7
        rw [show ((lv : Nat) : Int) + 1 = ((lv + 1 : Nat) : Int) from by omega]
        refine (HI1.out W3 (HCI.out.keep (hbW.mono (by omega))) (by have := T3.size; omega) Bp3 Bd3).mono ?_
        rintro en w4 ⟨⟨v0, rfl⟩, T4, Bp4, Bd4⟩
        have hbw := T3.trans T4
        have HB4 := Lib.hid (And.intro Bp4 Bd4)
        clear T3 T4 Bp3 Bd3 Bp4 Bd4 hbW HI1 HBB
        go_wp2
        go_roundw
        case rel => exact ⟨k + 1, HLT.out, by go_num, hbw, by rw [HS.out]; exact HB4⟩
        case measure =>
          have := HLT.out
          simp [intOf]
          omega
      · have hke : e.ar.take k = e.ar := List.take_of_length_le (by omega)
        rw [hke, ← HG.out] at HBB
        clear hke
        go_wp2
        refine bodyPost_end (v := .tuple #[]) (by simp [results, Tryz.results37, go_sem]) rfl ⟨⟨_, rfl⟩, hbr, HBB.out.1, HBB.out.2⟩
set_option maxHeartbeats 2000000 in
set_option maxRecDepth 100000 in
theorem CheckExpr_any (e : Ex) (B : Nat) (cs : List Value) (w : World) (hx : ExAt w B e cs) (hB : B ≤ w.heap.size) (hp : e.parts ≤ 100000000) :
    Calls Tryz.prog 15 #[.agg cs.toArray] w fun en w' => en = .returned (.int .i64 (checkE e)) ∧ Below w.heap.size w w' := by
  have HX := Lib.hid hx
  obtain ⟨hn, hs, hl, ha, hx, hr, hi⟩ := hx
  rename_i A c A' c' cs
  clear hx hr hi
  have HB := Lib.hid (meas_bad e)
  have h1 := meas_le1 e 1 (0, 0)
  have h2 := meas_le2 e 1 (0, 0) (by omega) (by simp)
  obtain ⟨P, hP⟩ : ∃ P, e.meas 1 (0, 0) = P := ⟨_, rfl⟩
  have HP := Lib.hid hP
  rw [hP] at h1 h2
  obtain ⟨p, d⟩ := P
  simp only [Nat.zero_add] at h1 h2
  clear hP
  show Calls Tryz.prog 15 #[.agg #[.int .i64 e.k, .int .i64 e.op, .string e.nm, .int .i64 e.v.k, .int .i64 e.v.n, .string e.v.s, .slice A e.v.l.length c, .slice A' e.ar.length c']] w _
  go_enter Tryz.func15, Tryz.ntmps15
  go_wp2_with fail
  obtain ⟨W, hW⟩ : ∃ W, W = (((w.alloc (.cells #[.int .i64 e.k, .int .i64 e.op, .string e.nm, .int .i64 e.v.k, .int .i64 e.v.n, .string e.v.s, .slice A e.v.l.length c, .slice A' e.ar.length c'] 27 (0, 0))).alloc (.cells #[.int .i64 0] 3 (0, 0))).alloc (.cells #[.int .i64 0] 3 (0, 0))) := ⟨_, rfl⟩
  have hbw : Below w.heap.size w W := by rw [hW]; exact ((((Below.refl _ w).alloc (Nat.le_refl _) _).alloc (by simp) _).alloc (by simp; omega) _)
  have B0 : Blk W (w.heap.size) 27 #[.int .i64 e.k, .int .i64 e.op, .string e.nm, .int .i64 e.v.k, .int .i64 e.v.n, .string e.v.s, .slice A e.v.l.length c, .slice A' e.ar.length c'] := by
    rw [hW]
    have := Blk.new w 27 #[.int .i64 e.k, .int .i64 e.op, .string e.nm, .int .i64 e.v.k, .int .i64 e.v.n, .string e.v.s, .slice A e.v.l.length c, .slice A' e.ar.length c']
    have := this.alloc (.cells #[.int .i64 0] 3 (0, 0))
    have := this.alloc (.cells #[.int .i64 0] 3 (0, 0))
    exact this
  have B1 : Blk W (w.heap.size + 1) 3 #[.int .i64 0] := by
    rw [hW]
    have := Blk.new (w.alloc (.cells #[.int .i64 e.k, .int .i64 e.op, .string e.nm, .int .i64 e.v.k, .int .i64 e.v.n, .string e.v.s, .slice A e.v.l.length c, .slice A' e.ar.length c'] 27 (0, 0))) 3 #[.int .i64 0]
    have := this.alloc (.cells #[.int .i64 0] 3 (0, 0))
    rwa [World.size_alloc] at this
  have B2 : Blk W (w.heap.size + 2) 3 #[.int .i64 0] := by
    rw [hW]
    have := Blk.new ((w.alloc (.cells #[.int .i64 e.k, .int .i64 e.op, .string e.nm, .int .i64 e.v.k, .int .i64 e.v.n, .string e.v.s, .slice A e.v.l.length c, .slice A' e.ar.length c'] 27 (0, 0))).alloc (.cells #[.int .i64 0] 3 (0, 0))) 3 #[.int .i64 0]
    rwa [World.size_alloc, World.size_alloc] at this
  have hsz : W.heap.size = w.heap.size + 3 := by rw [hW]; simp
  rw [← hW]
  refine (measure_any e B (w.heap.size + 1) (w.heap.size + 2) _ 1 0 0 W (HX.out.keep (hbw.mono hB)) (by omega) (by omega) (by omega) (by omega) B1 B2 (by omega) (by omega) (by omega)).mono ?_
  rw [HP.out]
  rintro en w1 ⟨⟨v0, rfl⟩, T, Bp, Bd⟩
  have hbw := hbw.trans (T.below (by omega) (by omega) hbw.size)
  have B0 := B0.two T (by omega) (by omega)
  have hsz1 : W.heap.size ≤ w1.heap.size := T.size
  clear hW T B1 B2
  have pc : w1.cell? ⟨w.heap.size + 1, 0, none⟩ = some (.int .i64 (p : Nat)) := Bp.cell 0
  have dc : w1.cell? ⟨w.heap.size + 2, 0, none⟩ = some (.int .i64 (d : Nat)) := Bd.cell 0
  have rc0 : w1.cell? ⟨w.heap.size, 0, none⟩ = some (.int .i64 e.k) := B0.cell 0
  have rc1 : w1.cell? ⟨w.heap.size, 1, none⟩ = some (.int .i64 e.op) := B0.cell 1
  have rc2 : w1.cell? ⟨w.heap.size, 2, none⟩ = some (.string e.nm) := B0.cell 2
  have rc3 : w1.cell? ⟨w.heap.size, 3, none⟩ = some (.int .i64 e.v.k) := B0.cell 3
  have rc4 : w1.cell? ⟨w.heap.size, 4, none⟩ = some (.int .i64 e.v.n) := B0.cell 4
  have rc5 : w1.cell? ⟨w.heap.size, 5, none⟩ = some (.string e.v.s) := B0.cell 5
  have rc6 : w1.cell? ⟨w.heap.size, 6, none⟩ = some (.slice A e.v.l.length c) := B0.cell 6
  have rc7 : w1.cell? ⟨w.heap.size, 7, none⟩ = some (.slice A' e.ar.length c') := B0.cell 7
  have HQ := Lib.hid (show (300 < p ∨ 20 < d) ↔ (300 < e.parts ∨ 20 < e.depth) by have h := HB.out; rw [HP.out] at h; exact h)
  by_cases h3 : 300 < p
  · have b3 : decide ((300 : Int) < (p : Nat)) = true := by simp; omega
    have HG := Lib.hid (show checkE e = 2 by unfold checkE; rw [if_pos (HQ.out.1 (.inl h3))])
    clear h3
    go_wp2
    go_ret
    exact ⟨ret_int (by rw [HG.out]), hbw⟩
  have b3 : decide ((300 : Int) < (p : Nat)) = false := by simp; omega
  by_cases h20 : 20 < d
  · have b20 : decide ((20 : Int) < (d : Nat)) = true := by simp; omega
    have HG := Lib.hid (show checkE e = 2 by unfold checkE; rw [if_pos (HQ.out.1 (.inr h20))])
    clear h3 h20
    go_wp2
    go_ret
    exact ⟨ret_int (by rw [HG.out]), hbw⟩
  have b20 : decide ((20 : Int) < (d : Nat)) = false := by simp; omega
  have HG := Lib.hid (show checkE e = e.fault by unfold checkE; rw [if_neg (fun h => by have := HQ.out.2 h; omega)])
  clear h3 h20
  go_wp2_with fail
  refine (partsFault_any e B _ w1 (HX.out.keep (hbw.mono hB)) (Nat.le_trans hB hbw.size)).mono ?_
  rintro en w2 ⟨rfl, hb2⟩
  have hbw := hbw.trans (hb2.mono hbw.size)
  clear hb2 pc dc rc0 rc1 rc2 rc3 rc4 rc5 rc6 rc7
  go_wp2
  go_ret
  exact ⟨ret_int (by rw [HG.out]), hbw⟩
end Go.Proofs.YtpanbeoelbhhgaaGreatDoor
namespace Go.Proofs.YtpanbeoelbhhgaaGreatDoor
open Go.RowKit
def strV (l : List ByteArray) : List Value := l.map Value.string
theorem strV_len (l : List ByteArray) : (strV l).length = l.length := by simp [strV]
theorem Reads.plain {w : World} {B n : Nat} {A : Option Addr} {xs : List Value} (h : Reads w B 1 A n xs) (hn : 0 < n) : ∃ b o, A = some ⟨b, o, none⟩ ∧ b < B ∧ ∀ j u, xs[j]? = some u → w.cell? ⟨b, o + j, none⟩ = some u := by
  obtain ⟨ad, rfl, hb, hc⟩ := h.2 hn
  have hl : 0 < xs.length := by have := h.1; omega
  have h0 := hc 0 _ (List.getElem?_eq_getElem hl)
  obtain ⟨b, o, s⟩ := ad
  have hs : s = none := by
    cases s with
    | none => rfl
    | some z =>
      rw [show Addr.add ⟨b, o, some z⟩ 0 = ⟨b, o, some z⟩ from rfl] at h0
      unfold World.cell? at h0
      simp at h0
      split at h0 <;> simp at h0
  subst hs
  refine ⟨b, o, rfl, hb, fun j u hu => ?_⟩
  have := hc j u hu
  unfold Addr.add at this
  split at this
  · rename_i e; subst e; exact this
  · exact this
abbrev StrsAt (w : World) (B : Nat) (A : Option Addr) (l : List ByteArray) : Prop := Reads w B 1 A l.length (strV l)
theorem StrsAt.cells {w : World} {b o : Nat} {l : List ByteArray} (h : ∀ j u, (strV l)[j]? = some u → w.cell? ⟨b, o + j, none⟩ = some u) : ∀ j, j < l.length → w.cell? ⟨b, o + j, none⟩ = some (.string (l.getD j ByteArray.empty)) := by
  intro j hj
  refine h j _ ?_
  unfold strV
  rw [List.getElem?_map, List.getElem?_eq_getElem hj]
  simp [List.getD, hj]
theorem equalStr_any (A B : Option Addr) (c d B1 B2 : Nat) (xs ys : List ByteArray) (w : World) (hn : xs.length ≤ maxLen) (hm : ys.length ≤ maxLen) (hx : StrsAt w B1 A xs) (hy : StrsAt w B2 B ys) :
    Calls Tryz.prog 39 #[.slice A xs.length c, .slice B ys.length d] w fun e w' => e = .returned (.bool (decide (xs = ys))) ∧ Below w.heap.size w w' := by
  unfold maxLen at hn hm
  by_cases hl : xs.length = ys.length
  · rcases Nat.eq_zero_or_pos xs.length with h0 | h0
    · have e1 := List.eq_nil_of_length_eq_zero h0
      have e2 := List.eq_nil_of_length_eq_zero (hl.symm.trans h0)
      subst e1 e2
      exact (Tryz.slices_Equal_string_empty A B c 0 d w (by decide)).mono fun _ _ ⟨he, hw⟩ => ⟨by rw [he]; rfl, hw ▸ Below.refl _ _⟩
    · obtain ⟨b1, o1, rfl, -, h1⟩ := hx.plain h0
      obtain ⟨b2, o2, rfl, -, h2⟩ := hy.plain (by omega)
      refine (Tryz.slices_Equal_string b1 o1 xs.length c b2 o2 ys.length d xs ys w (Nat.le_refl _) (Nat.le_refl _) (by omega) (by omega) (StrsAt.cells h1) (StrsAt.cells h2)).mono fun _ _ ⟨he, q, hw⟩ => ⟨by rw [he, List.take_length, List.take_length], hw ▸ (Below.refl _ _).drewN q⟩
  · exact (Tryz.slices_Equal_string_lens A B xs.length c ys.length d w hl).mono fun _ _ ⟨he, hw⟩ => ⟨by rw [he, show decide (xs = ys) = false from decide_eq_false (fun e => hl (by rw [e]))], hw ▸ Below.refl _ _⟩
theorem containsStr_any (A : Option Addr) (c B1 : Nat) (xs : List ByteArray) (s : ByteArray) (w : World) (hn : xs.length ≤ maxLen) (hx : StrsAt w B1 A xs) :
    Calls Tryz.prog 41 #[.slice A xs.length c, .string s] w fun e w' => e = .returned (.bool (Lib.containsS xs s)) ∧ w = w' := by
  unfold maxLen at hn
  rcases Nat.eq_zero_or_pos xs.length with h0 | h0
  · have e1 := List.eq_nil_of_length_eq_zero h0
    subst e1
    exact (Tryz.slices_Contains_string_empty A c s w).mono fun _ _ ⟨he, hw⟩ => ⟨by rw [he]; rfl, hw.symm⟩
  · obtain ⟨b1, o1, rfl, -, h1⟩ := hx.plain h0
    refine (Tryz.slices_Contains_string b1 o1 xs.length c xs s w (Nat.le_refl _) (by omega) (StrsAt.cells h1)).mono fun _ _ ⟨he, hw⟩ => ⟨?_, hw.symm⟩
    rw [he, List.take_length]
def R0 (v : Value) : Option (DataW Value × List MemPlace) := some (.held v, [])
def getK (kv : List (ByteArray × Value)) (s : ByteArray) : Option Value := match kv with
  | [] => none
  | p :: r => if p.1 = s then some p.2 else getK r s
/-- the map in block b holds just these entries (the first one of a key counts) -/
structure MapIs (w : World) (b : Nat) (kv : List (ByteArray × Value)) : Prop where
  ex : ∃ D, w.ownsMap Tryz.prog 9 R0 b kv.length D ∧ Maps.IsMap D ∧ ∀ (s : ByteArray) zd, D.atKey (.string s.data.toList) zd = (match getK kv s with | some v => .held v | none => zd)
theorem keyS {s : ByteArray} (h : s.size ≤ maxLen) : keyOf Tryz.prog 9 (.string s) = some (.string s.data.toList) := WideMaps.keyOf_string_mk Tryz.underlying9 h
theorem MapIs.made (w : World) : MapIs (w.alloc (.map #[] 0)) w.heap.size [] := ⟨⟨.map [], World.ownsMap_made w _ _ _, Maps.isMap_empty, fun _ _ => rfl⟩⟩
theorem MapIs.lt {w : World} {b : Nat} {kv : List (ByteArray × Value)} (h : MapIs w b kv) : b < w.heap.size := h.ex.choose_spec.1.lt
theorem MapIs.kept {w w' : World} {b : Nat} {kv : List (ByteArray × Value)} {row : Option Nat} (h : MapIs w b kv) (hg : w.grownBy w' row) (hne : some b ≠ row) : MapIs w' b kv := by
  obtain ⟨D, h1, h2, h3⟩ := h.ex
  exact ⟨⟨D, h1.kept hg hne, h2, h3⟩⟩
theorem MapIs.same {w w' : World} {b : Nat} {kv : List (ByteArray × Value)} (h : MapIs w b kv) (hb : w'.heap[b]? = w.heap[b]?) : MapIs w' b kv := by
  obtain ⟨D, ⟨es, clock, h0, h1⟩, h2, h3⟩ := h.ex
  exact ⟨⟨D, ⟨es, clock, hb.trans h0, h1⟩, h2, h3⟩⟩
theorem MapIs.alloc {w : World} {b : Nat} {kv : List (ByteArray × Value)} (h : MapIs w b kv) (o : Obj) : MapIs (w.alloc o) b kv := h.same (Below.heap_alloc w o b h.lt)
theorem MapIs.setCell {w : World} {b : Nat} {kv : List (ByteArray × Value)} (h : MapIs w b kv) {p : Addr} (hp : b ≠ p.block) (u : Value) : MapIs (w.setCell p u) b kv := h.same (Below.heap_setCell w p u b hp)
theorem MapIs.below {w w' : World} {b B : Nat} {kv : List (ByteArray × Value)} (h : MapIs w b kv) (hb : Below B w w') (hB : b < B) : MapIs w' b kv := h.same (hb.block b hB)
theorem MapIs.look {w : World} {b : Nat} {kv : List (ByteArray × Value)} (h : MapIs w b kv) {t e : TypeId} (ht : Tryz.prog.underlying t = some (.map 9 e)) {z : Value} (hz : (zeroValue e).run Tryz.prog w = .ok z w) {s : ByteArray} (hs : s.size ≤ maxLen) :
    (Instr.lookup t (.map (some b)) (.string s) true).run Tryz.prog w = .ok (.tuple #[(getK kv s).getD z, .bool (getK kv s).isSome]) w := by
  obtain ⟨D, h1, h2, h3⟩ := h.ex
  obtain ⟨v, ps, hrun, hv⟩ := h1.look_ok (Maps.string_keyed Tryz.underlying9) ht hz (zd := .held z) (zp := []) rfl (keyS hs)
  rw [hrun]
  have h4 := h3 s (.held z)
  have hv' : (DataW.held v : DataW Value) = D.atKey (.string s.data.toList) (.held z) := by
    unfold R0 at hv
    exact (Prod.mk.inj (Option.some.inj hv)).1
  rw [h4] at hv'
  cases hg : getK kv s with
  | none =>
    rw [hg] at hv'
    have hh : Maps.has D (.string s.data.toList) = false := Maps.has_false_of_atKey (fun zd => by rw [h3 s zd, hg])
    rw [hh]
    rw [DataW.held.inj hv']
    rfl
  | some u =>
    rw [hg] at hv'
    have hh : Maps.has D (.string s.data.toList) = true := Maps.has_true_of_atKey (y := .held u) (fun zd => by rw [h3 s zd, hg])
    rw [hh]
    rw [DataW.held.inj hv']
    rfl
theorem MapIs.store {w' : World} {b : Nat} {kv : List (ByteArray × Value)} {D : DataW Value} {s : ByteArray} {v : Value} (h1 : Maps.IsMap D) (h2 : ∀ (s : ByteArray) zd, D.atKey (.string s.data.toList) zd = (match getK kv s with | some v => .held v | none => zd))
    (hown : w'.ownsMap Tryz.prog 9 R0 b (kv.length + 1) (D.put (.string s.data.toList) (.held v))) : MapIs w' b ((s, v) :: kv) := by
  refine ⟨⟨_, hown, h1.put _ _, fun t zd => ?_⟩⟩
  rw [getK]
  by_cases h : s = t
  · subst h
    rw [if_pos rfl, Maps.atKey_put_same h1 (show WideAt.IsKeyLit (.string _) from trivial)]
  · rw [if_neg h, Maps.atKey_put_other (fun e => h ?_), h2 t zd]
    have e1 : t.data.toList = s.data.toList := by injection e
    exact (ByteArray.ext (Array.toList_inj.1 e1)).symm
/-- 'm[s] = v' at the operation -/
theorem wpList_store_map {w : World} {ops : Array Oper} {rest : List Oper} {o : Oper} {a : Act} {Q : Exit → Act → World → Prop} (hg : o.guard = none) (m x v : Operand) (t e : TypeId) (hop : o.op = Op.mapUpdate t m x v)
    (ht : Tryz.prog.underlying t = some (.map 9 e)) {b : Nat} {kv : List (ByteArray × Value)} {s : ByteArray} {val : Value} (hm : a.eval m = .map (some b)) (hown : MapIs w b kv) (hn : kv.length < maxLen) (hx : a.eval x = .string s) (hv : a.eval v = val) (hs : s.size ≤ maxLen)
    (hK : ∀ w', MapIs w' b ((s, val) :: kv) → w.grownBy w' (some b) → wpList Tryz.prog ops Q rest (a.put o.dst undef) w') :
    wpList Tryz.prog ops Q (o :: rest) a w := by
  obtain ⟨D, h1, h2, h3⟩ := hown.ex
  exact wpList_mapUpdate_own w hg m x v t hop 9 e (Maps.string_keyed Tryz.underlying9) ht R0 b kv.length D hm h1 hn (.string s) val (.string s.data.toList) hx hv (keyS hs) (.held val) [] rfl
    (fun w' h4 h5 => hK w' (MapIs.store h2 h3 h4) h5)
end Go.Proofs.YtpanbeoelbhhgaaGreatDoor
namespace Go.Proofs.YtpanbeoelbhhgaaGreatDoor
open Go.RowKit
/-- a slice whose elements, of so many cells each, lie there -/
def LiesAt {α : Type} (P : World → Nat → α → List Value → Prop) (size : Nat) (w : World) (B : Nat) (A : Option Addr) (l : List α) : Prop :=
  l.length ≤ maxLen ∧ ∃ cs, Reads w B size A l.length cs ∧ ∀ i (h : i < l.length), P w B l[i] ((cs.drop (i * size)).take size)
section
variable {α : Type} {P : World → Nat → α → List Value → Prop} {size B : Nat} {w w' : World} {A : Option Addr} {l : List α}
theorem LiesAt.at_ (h : LiesAt P size w B A l) {i : Nat} (hi : i < l.length) : ∃ ad ci, A = some ad ∧ ad.block < B ∧ P w B l[i] ci ∧ ∀ j u, ci[j]? = some u → w.cell? ((ad.add (i * size)).add j) = some u := by
  obtain ⟨-, cs, hr, hp⟩ := h
  obtain ⟨ad, rfl, hb, hc⟩ := hr.2 (by omega)
  refine ⟨ad, _, rfl, hb, hp i hi, fun j u hu => ?_⟩
  rw [add_of_add]
  refine hc _ u ?_
  rw [List.getElem?_take] at hu
  split at hu
  · rw [List.getElem?_drop] at hu; exact hu
  · cases hu
theorem LiesAt.keep (hP : ∀ d cs, P w B d cs → P w' B d cs) (h : LiesAt P size w B A l) (hb : Below B w w') : LiesAt P size w' B A l := by
  obtain ⟨h0, cs, hr, hp⟩ := h
  exact ⟨h0, cs, hr.below hb, fun i hi => hP _ _ (hp i hi)⟩
end
structure NestD where
  nm : ByteArray
  loops : List ByteArray
structure CellD where
  nm : ByteArray
  kind : Int
  loops : List ByteArray
structure NestAt (w : World) (B : Nat) (d : NestD) (cs : List Value) : Prop where
  ex : ∃ A c, cs = [.string d.nm, .slice A d.loops.length c] ∧ StrsAt w B A d.loops ∧ d.loops.length ≤ c
  h1 : d.nm.size ≤ maxLen
  h2 : d.loops.length ≤ maxLen
  h3 : ∀ s ∈ d.loops, s.size ≤ maxLen
structure CellAt (w : World) (B : Nat) (d : CellD) (cs : List Value) : Prop where
  ex : ∃ A c, cs = [.string d.nm, .int .i64 d.kind, .slice A d.loops.length c] ∧ StrsAt w B A d.loops ∧ d.loops.length ≤ c
  h1 : d.nm.size ≤ maxLen
  h2 : d.loops.length ≤ maxLen
  h3 : ∀ s ∈ d.loops, s.size ≤ maxLen
theorem NestAt.keep {w w' : World} {B : Nat} {d : NestD} {cs : List Value} (h : NestAt w B d cs) (hb : Below B w w') : NestAt w' B d cs := by
  obtain ⟨⟨A, c, e, hx, hc⟩, h1, h2, h3⟩ := h
  exact ⟨⟨A, c, e, hx.below hb, hc⟩, h1, h2, h3⟩
theorem CellAt.keep {w w' : World} {B : Nat} {d : CellD} {cs : List Value} (h : CellAt w B d cs) (hb : Below B w w') : CellAt w' B d cs := by
  obtain ⟨⟨A, c, e, hx, hc⟩, h1, h2, h3⟩ := h
  exact ⟨⟨A, c, e, hx.below hb, hc⟩, h1, h2, h3⟩
abbrev NestsAt := LiesAt NestAt 2
abbrev CellsAt := LiesAt CellAt 3
theorem NestsAt.keep {w w' : World} {B : Nat} {A : Option Addr} {l : List NestD} (h : NestsAt w B A l) (hb : Below B w w') : NestsAt w' B A l := LiesAt.keep (fun _ _ h => h.keep hb) h hb
theorem CellsAt.keep {w w' : World} {B : Nat} {A : Option Addr} {l : List CellD} (h : CellsAt w B A l) (hb : Below B w w') : CellsAt w' B A l := LiesAt.keep (fun _ _ h => h.keep hb) h hb
theorem StrsAt.take {w : World} {B : Nat} {A : Option Addr} {l : List ByteArray} (h : StrsAt w B A l) (k : Nat) : StrsAt w B A (l.take k) := by
  refine ⟨by rw [strV_len]; simp, fun hn => ?_⟩
  have hk : (l.take k).length ≤ l.length := List.length_take_le' _ _
  obtain ⟨ad, e, hb, hc⟩ := h.2 (by omega)
  refine ⟨ad, e, hb, fun j u hu => hc j u ?_⟩
  unfold strV at hu ⊢
  rw [List.map_take, List.getElem?_take] at hu
  split at hu
  · exact hu
  · cases hu
def nestedF (loops : List NestD) (at_ : List ByteArray) : Bool := match at_.getLast? with
  | none => true
  | some z => loops.any (fun n => decide (n.nm = z) && decide (n.loops = at_.dropLast))
def cellFault (prev : List CellD) (c : CellD) : Int := if isNameF c.nm.data.toList = false then 5 else if prev.any (fun d => decide (d.nm = c.nm)) = true then 6 else if outB c.kind 2 7 = true then 4 else 0
def nestFault (prev : List NestD) (n : NestD) : Int := if isNameF n.nm.data.toList = false then 5 else if prev.any (fun d => decide (d.nm = n.nm)) = true then 6 else if nestedF prev n.loops = false then 7 else 0
def firstF {α : Type} (f : List α → α → Int) : List α → List α → Int
  | _, [] => 0
  | prev, a :: r => if f prev a ≠ 0 then f prev a else firstF f (prev ++ [a]) r
def worldF (cells : List CellD) (loops : List NestD) : Int :=
  if firstF cellFault [] cells ≠ 0 then firstF cellFault [] cells else if firstF nestFault [] loops ≠ 0 then firstF nestFault [] loops else
  if cells.any (fun c => !nestedF loops c.loops) = true then 9 else 0
/-- a map of the program's holds just these loops -/
structure KvN (w : World) (B : Nat) (kv : List (ByteArray × Value)) (l : List NestD) : Prop where
  no : ∀ s, getK kv s = none → ∀ d ∈ l, d.nm ≠ s
  yes : ∀ s v, getK kv s = some v → ∃ d cs, d ∈ l ∧ d.nm = s ∧ v = .agg cs.toArray ∧ NestAt w B d cs
  len : kv.length = l.length
  one : l.Pairwise (fun a b => a.nm ≠ b.nm)
structure KvC (w : World) (B : Nat) (kv : List (ByteArray × Value)) (l : List CellD) : Prop where
  no : ∀ s, getK kv s = none → ∀ d ∈ l, d.nm ≠ s
  yes : ∀ s v, getK kv s = some v → ∃ d cs, d ∈ l ∧ d.nm = s ∧ v = .agg cs.toArray ∧ CellAt w B d cs
  len : kv.length = l.length
  one : l.Pairwise (fun a b => a.nm ≠ b.nm)
theorem KvN.keep {w w' : World} {B : Nat} {kv : List (ByteArray × Value)} {l : List NestD} (h : KvN w B kv l) (hb : Below B w w') : KvN w' B kv l :=
  ⟨h.no, fun s v hv => by obtain ⟨d, cs, h1, h2, h3, h4⟩ := h.yes s v hv; exact ⟨d, cs, h1, h2, h3, h4.keep hb⟩, h.len, h.one⟩
theorem KvC.keep {w w' : World} {B : Nat} {kv : List (ByteArray × Value)} {l : List CellD} (h : KvC w B kv l) (hb : Below B w w') : KvC w' B kv l :=
  ⟨h.no, fun s v hv => by obtain ⟨d, cs, h1, h2, h3, h4⟩ := h.yes s v hv; exact ⟨d, cs, h1, h2, h3, h4.keep hb⟩, h.len, h.one⟩
theorem KvN.nil (w : World) (B : Nat) : KvN w B [] [] := ⟨(fun _ _ d hd => by cases hd), (fun s v hv => by cases hv), rfl, List.Pairwise.nil⟩
theorem KvC.nil (w : World) (B : Nat) : KvC w B [] [] := ⟨(fun _ _ d hd => by cases hd), (fun s v hv => by cases hv), rfl, List.Pairwise.nil⟩
theorem KvN.add {w : World} {B : Nat} {kv : List (ByteArray × Value)} {l : List NestD} (h : KvN w B kv l) {d : NestD} {cs : List Value} (hd : NestAt w B d cs) (hn : getK kv d.nm = none) : KvN w B ((d.nm, .agg cs.toArray) :: kv) (l ++ [d]) := by
  refine ⟨fun s hs x hx => ?_, fun s v hv => ?_, by simp [h.len], ?_⟩
  · rw [getK] at hs
    split at hs
    · cases hs
    · rename_i hne
      rcases List.mem_append.1 hx with h1 | h1
      · exact h.no s hs x h1
      · rw [List.mem_singleton] at h1; subst h1; exact hne
  · rw [getK] at hv
    split at hv
    · rename_i he
      injection hv with hv
      exact ⟨d, cs, by simp, he, hv.symm, hd⟩
    · obtain ⟨d', cs', h1, h2, h3, h4⟩ := h.yes s v hv
      exact ⟨d', cs', List.mem_append_left _ h1, h2, h3, h4⟩
  · rw [List.pairwise_append]
    refine ⟨h.one, List.pairwise_singleton _ _, fun a ha b hb => ?_⟩
    rw [List.mem_singleton] at hb
    subst hb
    exact h.no _ hn a ha
theorem KvC.add {w : World} {B : Nat} {kv : List (ByteArray × Value)} {l : List CellD} (h : KvC w B kv l) {d : CellD} {cs : List Value} (hd : CellAt w B d cs) (hn : getK kv d.nm = none) : KvC w B ((d.nm, .agg cs.toArray) :: kv) (l ++ [d]) := by
  refine ⟨fun s hs x hx => ?_, fun s v hv => ?_, by simp [h.len], ?_⟩
  · rw [getK] at hs
    split at hs
    · cases hs
    · rename_i hne
      rcases List.mem_append.1 hx with h1 | h1
      · exact h.no s hs x h1
      · rw [List.mem_singleton] at h1; subst h1; exact hne
  · rw [getK] at hv
    split at hv
    · rename_i he
      injection hv with hv
      exact ⟨d, cs, by simp, he, hv.symm, hd⟩
    · obtain ⟨d', cs', h1, h2, h3, h4⟩ := h.yes s v hv
      exact ⟨d', cs', List.mem_append_left _ h1, h2, h3, h4⟩
  · rw [List.pairwise_append]
    refine ⟨h.one, List.pairwise_singleton _ _, fun a ha b hb => ?_⟩
    rw [List.mem_singleton] at hb
    subst hb
    exact h.no _ hn a ha
/-- two of one name are one -/
theorem one_of {α : Type} {f : α → ByteArray} {l : List α} (h : l.Pairwise (fun a b => f a ≠ f b)) {a b : α} (ha : a ∈ l) (hb : b ∈ l) (e : f a = f b) : a = b := by
  induction l with
  | nil => cases ha
  | cons x r ih =>
    rw [List.pairwise_cons] at h
    rcases List.mem_cons.1 ha with e1 | e1 <;> rcases List.mem_cons.1 hb with e2 | e2
    · rw [e1, e2]
    · subst e1; exact absurd e (h.1 b e2)
    · subst e2; exact absurd e.symm (h.1 a e1)
    · exact ih h.2 e1 e2
/-- by a map: the loop of the last name, if there is one, has the rest as its loops -/
theorem nested_map {w : World} {B : Nat} {kv : List (ByteArray × Value)} {l : List NestD} (h : KvN w B kv l) {at_ : List ByteArray} {z : ByteArray} (hz : at_.getLast? = some z) :
    (getK kv z = none ∧ nestedF l at_ = false) ∨ ∃ d cs, getK kv z = some (.agg cs.toArray) ∧ NestAt w B d cs ∧ d ∈ l ∧ nestedF l at_ = decide (d.loops = at_.dropLast) := by
  cases hg : getK kv z with
  | none =>
    refine .inl ⟨rfl, ?_⟩
    unfold nestedF
    rw [hz]
    simp only
    rw [List.any_eq_false]
    intro d hd
    have := h.no z hg d hd
    simp [this]
  | some v =>
    obtain ⟨d, cs, h1, h2, h3, h4⟩ := h.yes z v hg
    refine .inr ⟨d, cs, by rw [h3], h4, h1, ?_⟩
    unfold nestedF
    rw [hz]
    simp only
    rw [Bool.eq_iff_iff, List.any_eq_true, decide_eq_true_iff]
    constructor
    · rintro ⟨x, hx, hq⟩
      rw [Bool.and_eq_true, decide_eq_true_iff, decide_eq_true_iff] at hq
      have := one_of (f := NestD.nm) h.one hx h1 (by rw [hq.1, h2])
      subst this
      exact hq.2
    · intro e
      exact ⟨d, h1, by rw [Bool.and_eq_true, decide_eq_true_iff, decide_eq_true_iff]; exact ⟨h2, e⟩⟩
theorem any_name {α : Type} {f : α → ByteArray} {l : List α} {s : ByteArray} (h : ∀ d ∈ l, f d ≠ s) : l.any (fun d => decide (f d = s)) = false := by
  rw [List.any_eq_false]
  intro d hd
  simpa using h d hd
theorem any_name' {α : Type} {f : α → ByteArray} {l : List α} {s : ByteArray} {d : α} (hd : d ∈ l) (h : f d = s) : l.any (fun d => decide (f d = s)) = true := List.any_eq_true.2 ⟨d, hd, by simpa using h⟩
end Go.Proofs.YtpanbeoelbhhgaaGreatDoor
namespace Go.Proofs.YtpanbeoelbhhgaaGreatDoor
open Go.RowKit
attribute [local go_sem ↓] Go.wp_at_zero Go.wp_at_succ
theorem zeroNest (w : World) : (zeroValue 97).run Tryz.prog w = .ok (.agg #[.string ⟨#[]⟩, .slice none 0 0]) w := by kernel_rfl
theorem last_of {l : List ByteArray} (h : 0 < l.length) : ∃ z, l.getLast? = some z ∧ l[l.length - 1]? = some z := by
  have hl : l.length - 1 < l.length := by omega
  refine ⟨l[l.length - 1], ?_, List.getElem?_eq_getElem hl⟩
  rw [List.getLast?_eq_getElem?]
  exact List.getElem?_eq_getElem hl
set_option maxHeartbeats 4000000 in
set_option maxRecDepth 100000 in
theorem nested_any (at_ : List ByteArray) (A : Option Addr) (c m1 m2 B : Nat) (kv : List (ByteArray × Value)) (l : List NestD) (w : World) (ha : at_.length ≤ maxLen) (hs : ∀ s ∈ at_, s.size ≤ maxLen) (hx : StrsAt w B A at_) (hc : at_.length ≤ c) (hB : B ≤ w.heap.size) (hm : MapIs w m2 kv) (hkv : KvN w B kv l) :
    Calls Tryz.prog 16 #[.agg #[.map (some m1), .map (some m2)], .slice A at_.length c] w fun e w' => e = .returned (.bool (nestedF l at_)) ∧ Below w.heap.size w w' := by
  have HX := Lib.hid (And.intro hx hB)
  have HM := Lib.hid hm
  have HKV := Lib.hid hkv
  have HS := Lib.hid hs
  have HA := Lib.hid ha
  have hc1 : ((at_.length : Nat) : Int) - 1 ≤ (c : Nat) := by omega
  unfold maxLen at ha
  clear hx hB hm hkv hs
  rcases Nat.eq_zero_or_pos at_.length with h0 | h0
  · have e1 := List.eq_nil_of_length_eq_zero h0
    subst e1
    clear h0
    go_enter Tryz.func16, Tryz.ntmps16
    go_wp2_with (fail)
    go_ret
    exact ⟨rfl, (Below.refl _ _).alloc (Nat.le_refl _) _⟩
  · obtain ⟨z, hz, hz2⟩ := last_of h0
    obtain ⟨b, o, rfl, hb, hcell⟩ := HX.out.1.plain h0
    have hzc : w.cell? ⟨b, o + (at_.length - 1), none⟩ = some (.string z) := hcell _ _ (by unfold strV; rw [List.getElem?_map, hz2]; rfl)
    have hzs : z.size ≤ maxLen := HS.out z (List.mem_of_getElem? hz2)
    have HN := Lib.hid (nested_map HKV.out hz)
    have hn1 : (1 : Int) ≤ (at_.length : Nat) := by omega
    have bn : ((at_.length : Int) == 0) = false := by rw [beq_eq_false_iff_ne]; omega
    clear hcell hz hz2
    have hbB : b < w.heap.size := by have := HX.out.2; omega
    have HX1 := Lib.hid HX.out
    clear HX
    go_enter Tryz.func16, Tryz.ntmps16
    go_upto_region 3 with (fail)
    obtain ⟨W, hW⟩ : ∃ W, W = (w.alloc (.cells #[.map (some m1), .map (some m2)] 57 (0, 0))) := ⟨_, rfl⟩
    have hbw : Below w.heap.size w W := by rw [hW]; exact ((Below.refl _ w).alloc (Nat.le_refl _) _)
    have B0 : Blk W (w.heap.size) 57 #[.map (some m1), .map (some m2)] := by
      rw [hW]
      have := Blk.new w 57 #[.map (some m1), .map (some m2)]
      exact this
    have hsz : W.heap.size = w.heap.size + 1 := by rw [hW]; simp
    rw [← hW]
    clear hsz
    have HM1 := Lib.hid (HM.out.below hbw HM.out.lt)
    have hzW : W.cell? ⟨b, o + (at_.length - 1), none⟩ = some (.string z) := by rw [hbw.cell (by exact hbB)]; exact hzc
    have wc1 : W.cell? ⟨w.heap.size, 1, none⟩ = some (.map (some m2)) := B0.cell 1
    clear hzc hW
    have i0 : IntKind.i64.wrap ((at_.length : Int) - 1) = (at_.length : Int) - 1 := IntWalk.i64_in _ (by omega)
    have i1 : ((at_.length : Int) - 1).toNat = at_.length - 1 := by omega
    have i2 : (0 : Int) ≤ (at_.length : Int) - 1 := by omega
    have i3 : (at_.length : Int) - 1 < (at_.length : Int) := by omega
    rcases HN.out with ⟨hg, hf⟩ | ⟨d, ds, hg, hd, hdl, hf⟩
    · skip
      have hlk : ∀ w', Below W.heap.size W w' → (Instr.lookup 55 (.map (some m2)) (.string z) true).run Tryz.prog w' = .ok (.tuple #[.agg #[.string ⟨#[]⟩, .slice none 0 0], .bool false]) w' := fun w' hb' => by
        have h := (HM1.out.below hb' HM1.out.lt).look Tryz.underlying55 (zeroNest w') hzs
        rw [hg] at h
        exact h
      have HLK := Lib.hid hlk
      have HF := Lib.hid hf
      have hl0 := HLK.out W (Below.refl _ _)
      have hbr := Below.refl W.heap.size W
      have HKQ := Lib.hid (fun w' (hq : Below W.heap.size W w') => And.intro (Below.cell_of hq wc1) (And.intro (Below.cell_of hq hzW) (And.intro (HLK.out w' hq) hq)))
      clear hlk hf hg
      go_region_held3 (fun w' => w'.cell? ⟨w.heap.size, 1, none⟩ = some (.map (some m2)) ∧ w'.cell? ⟨b, o + (at_.length - 1), none⟩ = some (.string z) ∧ (Instr.lookup 55 (.map (some m2)) (.string z) true).run Tryz.prog w' = .ok (.tuple #[.agg #[.string ⟨#[]⟩, .slice none 0 0], .bool false]) w' ∧ Below W.heap.size W w') (first | exact HKQ.out _ hbr.drew | exact HKQ.out _ (hbr.alloc (Nat.le_refl _) _) | exact HKQ.out _ (hbr.alloc (Nat.le_refl _) _).drew | exact HKQ.out _ (hbr.drew.alloc (Nat.le_refl _) _) | exact HKQ.out _ hbr) (fail)
      all_goals
        obtain ⟨W2, hW2⟩ : ∃ W2, W2 = (W.alloc (.cells #[.string ⟨#[]⟩, .slice none 0 0] 97 (0, 0))).drew := ⟨_, rfl⟩
        have hb2 : Below W.heap.size W W2 := hW2 ▸ ((Below.refl _ W).alloc (Nat.le_refl _) _).drew
        have hbw2 := hbw.trans (hb2.mono hbw.size)
        have B2 : Blk W2 W.heap.size 97 #[.string ⟨#[]⟩, .slice none 0 0] := hW2 ▸ (Blk.new W _ _).drew
        rw [← hW2]
        clear hW2
        clear hb2 B2
        go_upto_region 4 with (fail)
        go_quiet (fail)
        go_wp2_with (fail)
        go_ret
        exact ⟨ret_bool (by rw [HF.out]), hbw2.drewN _⟩
    · obtain ⟨⟨A', c', rfl, hdx, hdc⟩, hd1, hd2, hd3⟩ := hd
      have HDX := Lib.hid (And.intro hdx hd2)
      clear hdx hd2 hd3
      have hlk : ∀ w', Below W.heap.size W w' → (Instr.lookup 55 (.map (some m2)) (.string z) true).run Tryz.prog w' = .ok (.tuple #[.agg #[.string d.nm, .slice A' d.loops.length c'], .bool true]) w' := fun w' hb' => by
        have h := (HM1.out.below hb' HM1.out.lt).look Tryz.underlying55 (zeroNest w') hzs
        rw [hg] at h
        exact h
      have HLK := Lib.hid hlk
      have HF := Lib.hid hf
      have hl0 := HLK.out W (Below.refl _ _)
      have hbr := Below.refl W.heap.size W
      have HKQ := Lib.hid (fun w' (hq : Below W.heap.size W w') => And.intro (Below.cell_of hq wc1) (And.intro (Below.cell_of hq hzW) (And.intro (HLK.out w' hq) hq)))
      clear hlk hf hg
      go_region_held3 (fun w' => w'.cell? ⟨w.heap.size, 1, none⟩ = some (.map (some m2)) ∧ w'.cell? ⟨b, o + (at_.length - 1), none⟩ = some (.string z) ∧ (Instr.lookup 55 (.map (some m2)) (.string z) true).run Tryz.prog w' = .ok (.tuple #[.agg #[.string d.nm, .slice A' d.loops.length c'], .bool true]) w' ∧ Below W.heap.size W w') (first | exact HKQ.out _ hbr.drew | exact HKQ.out _ (hbr.alloc (Nat.le_refl _) _) | exact HKQ.out _ (hbr.alloc (Nat.le_refl _) _).drew | exact HKQ.out _ (hbr.drew.alloc (Nat.le_refl _) _) | exact HKQ.out _ hbr) (fail)
      all_goals
        obtain ⟨W2, hW2⟩ : ∃ W2, W2 = (W.alloc (.cells #[.string d.nm, .slice A' d.loops.length c'] 97 (0, 0))).drew := ⟨_, rfl⟩
        have hb2 : Below W.heap.size W W2 := hW2 ▸ ((Below.refl _ W).alloc (Nat.le_refl _) _).drew
        have hbw2 := hbw.trans (hb2.mono hbw.size)
        have B2 : Blk W2 W.heap.size 97 #[.string d.nm, .slice A' d.loops.length c'] := hW2 ▸ (Blk.new W _ _).drew
        rw [← hW2]
        clear hW2
        have hlen : (at_.take (at_.length - 1)).length = at_.length - 1 := by rw [List.length_take]; omega
        have k1 : ∀ w' : World, Below W2.heap.size W2 w' → Calls Tryz.prog 39 #[.slice A' d.loops.length c', .slice (some ⟨b, o, none⟩) (at_.length - 1) c] w' fun e w'' => e = .returned (.bool (decide (d.loops = at_.dropLast))) ∧ Below w'.heap.size w' w'' := fun w' hb' => by
          have hbb := hbw2.trans (hb'.mono hbw2.size)
          have h := equalStr_any A' (some ⟨b, o, none⟩) c' c B B d.loops (at_.take (at_.length - 1)) w' HDX.out.2 (by rw [hlen]; have := HA.out; omega) (HDX.out.1.below (hbb.mono HX1.out.2)) ((HX1.out.1.take _).below (hbb.mono HX1.out.2))
          rw [hlen, ← List.dropLast_eq_take] at h
          exact h
        have K1 := Lib.hid (Later.call k1)
        have r1 := Later.cell (show W2.cell? ⟨W.heap.size, 1, none⟩ = some (.slice A' d.loops.length c') from B2.cell 1)
        clear k1 hb2 B2 hlen
        go_upto_region 4 with (fail)
        refine wp_region_later (by kernel_rfl) (by kernel_rfl) ?_
        repeat (go_big_quiet_step (with_reducible exact K1.out _))
        refine wpQuiet_nil ?_
        intro _ hw'
        obtain ⟨⟨W9, hb9⟩, rfl⟩ := hw'
        go_wp2_with fail
        go_ret
        exact ⟨ret_bool (by rw [HF.out]), hbw2.trans (hb9.mono hbw2.size)⟩
end Go.Proofs.YtpanbeoelbhhgaaGreatDoor
