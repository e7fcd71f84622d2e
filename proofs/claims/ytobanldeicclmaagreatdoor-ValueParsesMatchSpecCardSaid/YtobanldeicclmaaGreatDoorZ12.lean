/- Lemmas for the claim: walks and plain laws. -/
import Derived.Test.YtobanldeicclmaaGreatDoorZ11
import Derived.Maps.OwnSet
import Derived.StringKeys
import Derived.Test.YtobanldeicclmaaGreatDoorZ5
set_option maxHeartbeats 4000000
set_option maxRecDepth 100000
namespace Go.Proofs.YtobanldeicclmaaGreatDoor
open Go.RowKit
structure Two (w w' : World) (p d : Nat) : Prop where
 os : w'.os = w.os
 tape : w'.tape = w.tape
 output : w'.output = w.output
 size : w.heap.size ≤ w'.heap.size
 block : ∀ i, i < w.heap.size → i ≠ p → i ≠ d → w'.heap[i]? = w.heap[i]?
theorem Two.refl (w : World) (p d : Nat) : Two w w p d := ⟨rfl, rfl, rfl, Nat.le_refl _, fun _ _ _ _ => rfl⟩
theorem Two.trans {a b c : World} {p d : Nat} (h : Two a b p d) (k : Two b c p d) : Two a c p d :=
 ⟨k.os.trans h.os, k.tape.trans h.tape, k.output.trans h.output, Nat.le_trans h.size k.size, fun i hi h1 h2 => (k.block i (Nat.lt_of_lt_of_le hi h.size) h1 h2).trans (h.block i hi h1 h2)⟩
theorem Two.alloc {a w : World} {p d : Nat} (h : Two a w p d) (o : Obj) : Two a (w.alloc o) p d :=
 ⟨h.os, h.tape, h.output, by rw [World.size_alloc]; exact Nat.le_succ_of_le h.size, fun i hi h1 h2 => (Below.heap_alloc w o i (Nat.lt_of_lt_of_le hi h.size)).trans (h.block i hi h1 h2)⟩
theorem Two.set {a w : World} {p d : Nat} (h : Two a w p d) {q : Addr} (hq : q.block = p ∨ q.block = d) (u : Value) : Two a (w.setCell q u) p d :=
 ⟨h.os, h.tape, h.output, by show _ ≤ (w.setCell q u).heap.size; simp [World.setCell]; exact h.size, fun i hi h1 h2 => (Below.heap_setCell w q u i (by rcases hq with e | e <;> rw [e] <;> assumption)).trans (h.block i hi h1 h2)⟩
theorem Two.below {w w' : World} {p d B : Nat} (h : Two w w' p d) (hp : B ≤ p) (hd : B ≤ d) (hB : B ≤ w.heap.size) : Below B w w' :=
 ⟨h.os, h.tape, h.output, h.size, fun i hi => h.block i (by omega) (by omega) (by omega)⟩
theorem af.two {w w' : World} {p d g : Nat} {t : TypeId} {cs : Array Value} (h : af w g t cs) (ht : Two w w' p d) (h1 : g ≠ p) (h2 : g ≠ d) : af w' g t cs := (ht.block g h.lt h1 h2).trans h
theorem I9 (e : Ex) : ∀ lv (s : Nat × Nat), (e.meas lv s).1 ≤ s.1 + e.parts := by
 induction e using Ex.ind with
 | h e ih =>
  intro lv s
  rw [xI, parts_eq]
  split
  ·
   show s.1 + 1 ≤ _; omega
  ·
   have : ∀ (l : List Ex), (∀ a ∈ l, a ∈ e.ar) → ∀ s : Nat × Nat, (fP l (lv + 1) s).1 ≤ s.1 + aI l := by
    intro l
    induction l with
    | nil => intro _ s; rw [fP, aI]; exact Nat.le_refl _
    | cons a r ih2 =>
     intro h s
     have h1 := ih a (h a (List.mem_cons_self ..)) (lv + 1) s
     have h2 := ih2 (fun b hb => h b (List.mem_cons_of_mem _ hb)) (a.meas (lv + 1) s)
     rw [fP, aI]
     omega
   have := this e.ar (fun a ha => ha) (s.1 + 1, max s.2 lv)
   simp only at this
   omega
theorem Ja (e : Ex) : ∀ lv (s : Nat × Nat), lv ≤ 21 → s.2 ≤ 21 → (e.meas lv s).2 ≤ 21 := by
 induction e using Ex.ind with
 | h e ih =>
  intro lv s h1 h2
  rw [xI]
  split
  ·
   show max s.2 lv ≤ _; omega
  ·
   rename_i hc
   have : ∀ (l : List Ex), (∀ a ∈ l, a ∈ e.ar) → ∀ s : Nat × Nat, s.2 ≤ 21 → (fP l (lv + 1) s).2 ≤ 21 := by
    intro l
    induction l with
    | nil => intro _ s hs; rw [fP]; exact hs
    | cons a r ih2 =>
     intro h s hs
     rw [fP]
     exact ih2 (fun b hb => h b (List.mem_cons_of_mem _ hb)) _ (ih a (h a (List.mem_cons_self ..)) (lv + 1) s (by omega) hs)
   exact this e.ar (fun a ha => ha) _ (by show max s.2 lv ≤ _; omega)
theorem Bv (a : Ex) (lv : Nat) : ∀ (l : List Ex) (s : Nat × Nat), fP (l ++ [a]) lv s = a.meas lv (fP l lv s)
 | [], s => by rw [List.nil_append, fP, fP, fP]
 | b :: r, s => by rw [List.cons_append, fP, fP, Bv a lv r]
theorem Jb (l : List Ex) (lv : Nat) (s : Nat × Nat) : ∀ k, (fP (l.take k) lv s).1 ≤ s.1 + aI (l.take k) := by
 intro k
 have : ∀ (l : List Ex) (s : Nat × Nat), (fP l lv s).1 ≤ s.1 + aI l := by
  intro l
  induction l with
  | nil => intro s; rw [fP, aI]; exact Nat.le_refl _
  | cons a r ih =>
   intro s
   have h1 := I9 a lv s
   have h2 := ih (a.meas lv s)
   rw [fP, aI]
   omega
 exact this _ s
theorem Jc (l : List Ex) (lv : Nat) (s : Nat × Nat) (h1 : lv ≤ 21) (h2 : s.2 ≤ 21) : ∀ k, (fP (l.take k) lv s).2 ≤ 21 := by
 intro k
 have : ∀ (l : List Ex) (s : Nat × Nat), s.2 ≤ 21 → (fP l lv s).2 ≤ 21 := by
  intro l
  induction l with
  | nil => intro s hs; rw [fP]; exact hs
  | cons a r ih =>
   intro s hs
   rw [fP]
   exact ih _ (Ja a lv s h1 hs)
 exact this _ s h2
structure MeR (en : Ending) (w w' : World) (pb db : Nat) (s : Nat × Nat) : Prop where
 he : ∃ v, en = .returned v
 two : Two w w' pb db
 hp : af w' pb 3 #[.int .i64 (s.1 : Nat)]
 hd : af w' db 3 #[.int .i64 (s.2 : Nat)]
theorem Jd (e : Ex) : ∀ (B pb db : Nat) (cs : List Value) (lv p d : Nat) (w : World), lK w B e cs → B ≤ w.heap.size → B ≤ pb → B ≤ db → pb ≠ db → af w pb 3 #[.int .i64 (p : Nat)] → af w db 3 #[.int .i64 (d : Nat)] →
  lv ≤ 21 → d ≤ 21 → p + e.parts ≤ 1000000000000 →
  Calls Tryz.prog 19 #[.agg cs.toArray, .int .i64 (lv : Nat), .pointer (some ⟨pb, 0, none⟩), .pointer (some ⟨db, 0, none⟩)] w fun en w' => MeR en w w' pb db (e.meas lv (p, d)) := by
 induction e using Ex.ind with
 | h e ih =>
  rintro B pb db cs lv p d w hx hB hpb hdb hne Bp Bd hlv hd hp
  obtain ⟨hn, hs, hl, ha, hx, hr, hi⟩ := hx
  rename_i A c A' c' cs
  have HR := qh (And.intro hr hi)
  have HI := qh ih
  have hpe := parts_eq e
  have hp1 : p + 1 ≤ 1000000000000 := by omega
  have HME := qh (xI e lv (p, d))
  unfold maxLen at ha
  clear hr hi ih hx
  show Calls Tryz.prog 19 #[.agg #[.int .i64 e.k, .int .i64 e.op, .string e.nm, .int .i64 e.v.k, .int .i64 e.v.n, .string e.v.s, .slice A e.v.l.length c, .slice A' e.ar.length c'], .int .i64 (lv : Nat), .pointer (some ⟨pb, 0, none⟩), .pointer (some ⟨db, 0, none⟩)] w _
  go_enter Tryz.func19, Tryz.ntmps19
  go_upto_region 1 with (fail)
  obtain ⟨W, hW⟩ := au (w.alloc (.cells #[.int .i64 e.k, .int .i64 e.op, .string e.nm, .int .i64 e.v.k, .int .i64 e.v.n, .string e.v.s, .slice A e.v.l.length c, .slice A' e.ar.length c'] 27 (0, 0)))
  have B0 : af W w.heap.size 27 #[.int .i64 e.k, .int .i64 e.op, .string e.nm, .int .i64 e.v.k, .int .i64 e.v.n, .string e.v.s, .slice A e.v.l.length c, .slice A' e.ar.length c'] := hW ▸ af.new w _ _
  have hpl := Bp.lt
  have hdl := Bd.lt
  have Bp := (hW ▸ Bp.alloc _ : af W pb 3 #[.int .i64 (p : Nat)])
  have Bd := (hW ▸ Bd.alloc _ : af W db 3 #[.int .i64 (d : Nat)])
  have T0 : Two w W pb db := hW ▸ (Two.refl w pb db).alloc _
  rw [← hW]
  clear hW
  have zx := qh hpe
  clear hpe
  have pc : W.cell? ⟨pb, 0, none⟩ = some (.int .i64 (p : Nat)) := Bp.cell 0
  have pz : W.frozen? ⟨pb, 0, none⟩ = false := Bp.frozen 0
  have dc : W.cell? ⟨db, 0, none⟩ = some (.int .i64 (d : Nat)) := Bd.cell 0
  have dz : W.frozen? ⟨db, 0, none⟩ = false := Bd.frozen 0
  obtain ⟨aQ, aS, aT, aU, aY, aZ, bu, bz⟩ := af.c8 B0
  go_upto_region 2 with (fail)
  obtain ⟨W1, hW1⟩ := au (W.setCell ⟨pb, 0, none⟩ (.int .i64 ((p : Int) + 1)))
  have B0 : af W1 w.heap.size 27 #[.int .i64 e.k, .int .i64 e.op, .string e.nm, .int .i64 e.v.k, .int .i64 e.v.n, .string e.v.s, .slice A e.v.l.length c, .slice A' e.ar.length c'] := hW1 ▸ B0.far (p := ⟨pb, 0, none⟩) (by show w.heap.size ≠ pb; omega) _
  have Bp : af W1 pb 3 #[.int .i64 ((p : Int) + 1)] := hW1 ▸ Bp.kE 0 _
  have Bd : af W1 db 3 #[.int .i64 (d : Nat)] := hW1 ▸ Bd.far (p := ⟨pb, 0, none⟩) (by show db ≠ pb; omega) _
  have T1 : Two w W1 pb db := hW1 ▸ T0.set (q := ⟨pb, 0, none⟩) (.inl rfl) _
  rw [← hW1]
  clear hW1 T0 pc pz dc dz aQ aS aT aU aY aZ bu bz
  have pc : W1.cell? ⟨pb, 0, none⟩ = some (.int .i64 ((p : Int) + 1)) := Bp.cell 0
  have dc : W1.cell? ⟨db, 0, none⟩ = some (.int .i64 (d : Nat)) := Bd.cell 0
  have dz : W1.frozen? ⟨db, 0, none⟩ = false := Bd.frozen 0
  go_upto_region 3 with (fail)
  obtain ⟨W2, hW2⟩ := au (W1.setCell ⟨db, 0, none⟩ (.int .i64 (max (d : Int) (lv : Int))))
  have B0 : af W2 w.heap.size 27 #[.int .i64 e.k, .int .i64 e.op, .string e.nm, .int .i64 e.v.k, .int .i64 e.v.n, .string e.v.s, .slice A e.v.l.length c, .slice A' e.ar.length c'] := hW2 ▸ B0.far (p := ⟨db, 0, none⟩) (by show w.heap.size ≠ db; omega) _
  have Bp : af W2 pb 3 #[.int .i64 ((p : Int) + 1)] := hW2 ▸ Bp.far (p := ⟨db, 0, none⟩) (by show pb ≠ db; omega) _
  have Bd : af W2 db 3 #[.int .i64 (max (d : Int) (lv : Int))] := hW2 ▸ Bd.kE 0 _
  have T2 : Two w W2 pb db := hW2 ▸ T1.set (q := ⟨db, 0, none⟩) (.inr rfl) _
  rw [← hW2]
  clear hW2 T1 pc dc dz
  have Bp : af W2 pb 3 #[.int .i64 ((p + 1 : Nat) : Int)] := by rw [show ((p + 1 : Nat) : Int) = (p : Int) + 1 from by omega]; exact Bp
  have Bd : af W2 db 3 #[.int .i64 ((max d lv : Nat) : Int)] := by rw [show ((max d lv : Nat) : Int) = max (d : Int) (lv : Int) from by omega]; exact Bd
  have pc : W2.cell? ⟨pb, 0, none⟩ = some (.int .i64 ((p + 1 : Nat) : Int)) := Bp.cell 0
  obtain ⟨q, hq⟩ := ae (p + 1)
  obtain ⟨g, hg⟩ := ae (max d lv)
  have hgl : g ≤ 21 := by omega
  rw [hq] at Bp pc hp1
  rw [hg] at Bd
  have HM2 := qh (show e.meas lv (p, d) = if 300 < q ∨ 20 < lv then (q, g) else fP e.ar (lv + 1) (q, g) by rw [HME.out, ← hq, ← hg])
  have hqp : q + aI e.ar ≤ 1000000000000 := by have := zx.out; omega
  clear HME zx hq hg
  by_cases h3 : 300 < q
  ·
   have b3 : decide ((300 : Int) < (q : Nat)) = true := by simp; omega
   have HG := qh (HM2.out.trans (if_pos (.inl h3)))
   clear h3
   go_wp2
   refine bodyPost_ret (v := .tuple #[]) (by simp [results, Tryz.results19, go_sem]) rfl ⟨⟨_, rfl⟩, T2, ?_, ?_⟩
   ·
    rw [HG.out]; exact Bp
   ·
    rw [HG.out]; exact Bd
  have b3 : decide ((300 : Int) < (q : Nat)) = false := by simp; omega
  by_cases h20 : 20 < lv
  ·
   have b20 : decide ((20 : Int) < (lv : Nat)) = true := by simp; omega
   have HG := qh (HM2.out.trans (if_pos (.inr h20)))
   clear h3 h20
   go_wp2
   refine bodyPost_ret (v := .tuple #[]) (by simp [results, Tryz.results19, go_sem]) rfl ⟨⟨_, rfl⟩, T2, ?_, ?_⟩
   ·
    rw [HG.out]; exact Bp
   ·
    rw [HG.out]; exact Bd
  have b20 : decide ((20 : Int) < (lv : Nat)) = false := by simp; omega
  have HG := qh (HM2.out.trans (if_neg (by omega)))
  have agW : lv ≤ 20 := by omega
  clear h3 h20 HM2 pc
  have pc : W2.cell? ⟨pb, 0, none⟩ = some (.int .i64 (q : Nat)) := Bp.cell 0
  obtain ⟨aQ, aS, aT, aU, aY, aZ, bu, bz⟩ := af.c8 B0
  go_wp2
  have HBp := qh Bp
  have HBd := qh Bd
  clear pc aQ aS aT aU aY aZ bu bz Bp Bd B0
  go_loopw [33] (fun i wr => ∃ (k : Nat), k ≤ e.ar.length ∧ i = .int .i64 k ∧ Two w wr pb db ∧ Hid (af wr pb 3 #[.int .i64 ((fP (e.ar.take k) (lv + 1) (q, g)).1 : Nat)] ∧ af wr db 3 #[.int .i64 ((fP (e.ar.take k) (lv + 1) (q, g)).2 : Nat)])) (fun i _ => e.ar.length - (intOf i).toNat)
  case atStart => exact ⟨0, Nat.zero_le _, rfl, T2, qh ⟨HBp.out, HBd.out⟩⟩
  case round =>
   obtain ⟨k, hk, rfl, hbr, Yr⟩ := hrel
   clear HBp HBd T2
   have tV := hbr.size
   have Bj := hbr.below hpb hdb hB
   by_cases hlt : k < e.ar.length
   ·
    obtain ⟨ad, ci, rfl, hb, hci, hcell⟩ := lK.arg (HR.out.1.below Bj) (fun i h => (HR.out.2 i h).keep Bj) hlt
    obtain ⟨a, hea⟩ := ae (e.ar[k])
    have ham : a ∈ e.ar := by rw [← hea]; exact List.getElem_mem hlt
    obtain ⟨P, hP⟩ := ae (fP (e.ar.take k) (lv + 1) (q, g))
    obtain ⟨P1, P2⟩ := P
    have HS := qh (show fP (e.ar.take (k + 1)) (lv + 1) (q, g) = a.meas (lv + 1) (P1, P2) by
     rw [List.take_succ_eq_append_getElem hlt, Bv, hea, hP])
    have hq1 : P1 + a.parts ≤ 1000000000000 := by
     have h1 := Jb e.ar (lv + 1) (q, g) k
     rw [hP] at h1
     have h2 : aI (e.ar.take k) + a.parts = aI (e.ar.take (k + 1)) := by rw [List.take_succ_eq_append_getElem hlt, uH, hea]
     have h3 := uI e.ar (k + 1)
     simp only at h1
     omega
    have hq2 : P2 ≤ 21 := by
     have h1 := Jc e.ar (lv + 1) (q, g) (by omega) hgl k
     rw [hP] at h1
     exact h1
    have fO := qh hlt
    rw [hP] at Yr
    rw [hea] at hci
    have VR := qh hci
    have HI1 := qh (fun w' h1 h2 h3 h4 => HI.out a ham B pb db ci (lv + 1) P1 P2 w' h1 h2 hpb hdb hne h3 h4 (by omega) hq2 hq1)
    obtain ⟨hn1, hs1, hl1, ha1, hx1, hr1, hi1⟩ := hci
    rename_i A1 c1 KW c1' cs1
    have Ib : wr.cell? (ad.add (k * 8)) = some (.int .i64 a.k) := hcell 0 _ rfl
    have KA : wr.cell? ⟨(ad.add (k * 8)).block, (ad.add (k * 8)).off + 1, none⟩ = some (.int .i64 a.op) := hcell 1 _ rfl
    have QW : wr.cell? ⟨(ad.add (k * 8)).block, (ad.add (k * 8)).off + 2, none⟩ = some (.string a.nm) := hcell 2 _ rfl
    have QX : wr.cell? ⟨(ad.add (k * 8)).block, (ad.add (k * 8)).off + 3, none⟩ = some (.int .i64 a.v.k) := hcell 3 _ rfl
    have QY : wr.cell? ⟨(ad.add (k * 8)).block, (ad.add (k * 8)).off + 4, none⟩ = some (.int .i64 a.v.n) := hcell 4 _ rfl
    have QZ : wr.cell? ⟨(ad.add (k * 8)).block, (ad.add (k * 8)).off + 5, none⟩ = some (.string a.v.s) := hcell 5 _ rfl
    have Q3 : wr.cell? ⟨(ad.add (k * 8)).block, (ad.add (k * 8)).off + 6, none⟩ = some (.slice A1 a.v.l.length c1) := hcell 6 _ rfl
    have Q4 : wr.cell? ⟨(ad.add (k * 8)).block, (ad.add (k * 8)).off + 7, none⟩ = some (.slice KW a.ar.length c1') := hcell 7 _ rfl
    clear hx1 hr1 hi1 hcell hea ham hP hq1
    go_wp2_with fail
    obtain ⟨W3, hW3⟩ := au (wr.alloc (.cells #[.int .i64 a.k, .int .i64 a.op, .string a.nm, .int .i64 a.v.k, .int .i64 a.v.n, .string a.v.s, .slice A1 a.v.l.length c1, .slice KW a.ar.length c1'] 27 (0, 0)))
    have T3 : Two w W3 pb db := hW3 ▸ hbr.alloc _
    have Bp3 : af W3 pb 3 #[.int .i64 (P1 : Nat)] := hW3 ▸ Yr.out.1.alloc _
    have Bd3 : af W3 db 3 #[.int .i64 (P2 : Nat)] := hW3 ▸ Yr.out.2.alloc _
    have hbW : Below wr.heap.size wr W3 := hW3 ▸ (Below.refl _ wr).alloc (Nat.le_refl _) _
    rw [← hW3]
    clear hW3 Ib KA QW QX QY QZ Q3 Q4
    rw [show ((lv : Nat) : Int) + 1 = ((lv + 1 : Nat) : Int) from by omega]
    refine (HI1.out W3 (VR.out.keep (hbW.mono (by omega))) (by have := T3.size; omega) Bp3 Bd3).mono ?_
    rintro en w4 ⟨⟨v0, rfl⟩, T4, Bp4, Bd4⟩
    have hbw := T3.trans T4
    have HB4 := qh (And.intro Bp4 Bd4)
    clear T3 T4 Bp3 Bd3 Bp4 Bd4 hbW HI1 Yr
    go_wp2
    go_roundw
    case rel => exact ⟨k + 1, fO.out, by go_num, hbw, by rw [HS.out]; exact HB4⟩
    case measure =>
     have := fO.out
     simp [intOf]
     omega
   ·
    have hke : e.ar.take k = e.ar := List.take_of_length_le (by omega)
    rw [hke, ← HG.out] at Yr
    clear hke
    go_wp2
    refine bodyPost_end (v := .tuple #[]) (by simp [results, Tryz.results19, go_sem]) rfl ⟨⟨_, rfl⟩, hbr, Yr.out.1, Yr.out.2⟩
theorem DY (e : Ex) (B : Nat) (cs : List Value) (w : World) (hx : lK w B e cs) (hB : B ≤ w.heap.size) (hp : e.parts ≤ 100000000) :
  Calls Tryz.prog 9 #[.agg cs.toArray] w fun en w' => en = .returned (.int .i64 (ik e)) ∧ Below w.heap.size w w' := by
 have HX := qh hx
 obtain ⟨hn, hs, hl, ha, hx, hr, hi⟩ := hx
 rename_i A c A' c' cs
 clear hx hr hi
 have HB := qh (Ro e)
 have h1 := I9 e 1 (0, 0)
 have h2 := Ja e 1 (0, 0) (by omega) (by simp)
 obtain ⟨P, hP⟩ := ae (e.meas 1 (0, 0))
 have HP := qh hP
 rw [hP] at h1 h2
 obtain ⟨p, d⟩ := P
 simp only [Nat.zero_add] at h1 h2
 clear hP
 show Calls Tryz.prog 9 #[.agg #[.int .i64 e.k, .int .i64 e.op, .string e.nm, .int .i64 e.v.k, .int .i64 e.v.n, .string e.v.s, .slice A e.v.l.length c, .slice A' e.ar.length c']] w _
 go_enter Tryz.func9, Tryz.ntmps9
 go_wp2_with fail
 obtain ⟨W, hW⟩ := au ((((w.alloc (.cells #[.int .i64 e.k, .int .i64 e.op, .string e.nm, .int .i64 e.v.k, .int .i64 e.v.n, .string e.v.s, .slice A e.v.l.length c, .slice A' e.ar.length c'] 27 (0, 0))).alloc (.cells #[.int .i64 0] 3 (0, 0))).alloc (.cells #[.int .i64 0] 3 (0, 0))))
 have hbw : Below w.heap.size w W := by rw [hW]; exact ((((Below.refl _ w).alloc (Nat.le_refl _) _).alloc (by simp) _).alloc (by simp; omega) _)
 have B0 : af W (w.heap.size) 27 #[.int .i64 e.k, .int .i64 e.op, .string e.nm, .int .i64 e.v.k, .int .i64 e.v.n, .string e.v.s, .slice A e.v.l.length c, .slice A' e.ar.length c'] := by
  rw [hW]
  have := af.new w 27 #[.int .i64 e.k, .int .i64 e.op, .string e.nm, .int .i64 e.v.k, .int .i64 e.v.n, .string e.v.s, .slice A e.v.l.length c, .slice A' e.ar.length c']
  have := this.alloc (.cells #[.int .i64 0] 3 (0, 0))
  have := this.alloc (.cells #[.int .i64 0] 3 (0, 0))
  exact this
 have B1 : af W (w.heap.size + 1) 3 #[.int .i64 0] := by
  rw [hW]
  have := af.new (w.alloc (.cells #[.int .i64 e.k, .int .i64 e.op, .string e.nm, .int .i64 e.v.k, .int .i64 e.v.n, .string e.v.s, .slice A e.v.l.length c, .slice A' e.ar.length c'] 27 (0, 0))) 3 #[.int .i64 0]
  have := this.alloc (.cells #[.int .i64 0] 3 (0, 0))
  rwa [World.size_alloc] at this
 have B2 : af W (w.heap.size + 2) 3 #[.int .i64 0] := by
  rw [hW]
  have := af.new ((w.alloc (.cells #[.int .i64 e.k, .int .i64 e.op, .string e.nm, .int .i64 e.v.k, .int .i64 e.v.n, .string e.v.s, .slice A e.v.l.length c, .slice A' e.ar.length c'] 27 (0, 0))).alloc (.cells #[.int .i64 0] 3 (0, 0))) 3 #[.int .i64 0]
  rwa [World.size_alloc, World.size_alloc] at this
 have hsz : W.heap.size = w.heap.size + 3 := by rw [hW]; simp
 rw [← hW]
 refine (Jd e B (w.heap.size + 1) (w.heap.size + 2) _ 1 0 0 W (HX.out.keep (hbw.mono hB)) (by omega) (by omega) (by omega) (by omega) B1 B2 (by omega) (by omega) (by omega)).mono ?_
 rw [HP.out]
 rintro en w1 ⟨⟨v0, rfl⟩, T, Bp, Bd⟩
 have hbw := hbw.trans (T.below (by omega) (by omega) hbw.size)
 have B0 := B0.two T (by omega) (by omega)
 have hsz1 : W.heap.size ≤ w1.heap.size := T.size
 clear hW T B1 B2
 have pc : w1.cell? ⟨w.heap.size + 1, 0, none⟩ = some (.int .i64 (p : Nat)) := Bp.cell 0
 have dc : w1.cell? ⟨w.heap.size + 2, 0, none⟩ = some (.int .i64 (d : Nat)) := Bd.cell 0
 obtain ⟨aQ, aS, aT, aU, aY, aZ, bu, bz⟩ := af.c8 B0
 have HQ := qh (show (300 < p ∨ 20 < d) ↔ (300 < e.parts ∨ 20 < e.depth) by have h := HB.out; rw [HP.out] at h; exact h)
 by_cases h3 : 300 < p
 ·
  have b3 : decide ((300 : Int) < (p : Nat)) = true := by simp; omega
  have HG := qh (show ik e = 2 by unfold ik; rw [if_pos (HQ.out.1 (.inl h3))])
  clear h3
  go_wp2
  go_ret
  exact ⟨ah (by rw [HG.out]), hbw⟩
 have b3 : decide ((300 : Int) < (p : Nat)) = false := by simp; omega
 by_cases h20 : 20 < d
 ·
  have b20 : decide ((20 : Int) < (d : Nat)) = true := by simp; omega
  have HG := qh (show ik e = 2 by unfold ik; rw [if_pos (HQ.out.1 (.inr h20))])
  clear h3 h20
  go_wp2
  go_ret
  exact ⟨ah (by rw [HG.out]), hbw⟩
 have b20 : decide ((20 : Int) < (d : Nat)) = false := by simp; omega
 have HG := qh (show ik e = e.fault by unfold ik; rw [if_neg (fun h => by have := HQ.out.2 h; omega)])
 clear h3 h20
 go_wp2_with fail
 refine (Bq e B _ w1 (HX.out.keep (hbw.mono hB)) (Nat.le_trans hB hbw.size)).mono ?_
 rintro en w2 ⟨rfl, hb2⟩
 have hbw := hbw.trans (hb2.mono hbw.size)
 clear hb2 pc dc aQ aS aT aU aY aZ bu bz
 go_wp2
 go_ret
 exact ⟨ah (by rw [HG.out]), hbw⟩
theorem Bz (e : Ex) (B : Nat) (cs : List Value) (w : World) (hx : lK w B e cs) (hB : B ≤ w.heap.size) (hp : e.parts ≤ 1000000) (hsp : Sp w) :
  Calls Tryz.prog 18 #[.agg cs.toArray] w fun en w' => en = .returned (.int .i64 (ik e)) ∧ Below w.heap.size w w' := by
 have HX := qh hx
 have DK := qh hsp
 obtain ⟨hn, hs, hl, ha, hx, hr, hi⟩ := hx
 rename_i A c A' c' cs
 clear hx hr hi hsp
 have hdp := pM e
 obtain ⟨p, hpp⟩ := ae (e.parts)
 obtain ⟨d, hd⟩ := ae (e.depth)
 have HP := qh (And.intro hpp hd)
 rw [hpp, hd] at hdp
 have hp1 : p ≤ 1000000 := by omega
 clear hpp hd
 show Calls Tryz.prog 18 #[.agg #[.int .i64 e.k, .int .i64 e.op, .string e.nm, .int .i64 e.v.k, .int .i64 e.v.n, .string e.v.s, .slice A e.v.l.length c, .slice A' e.ar.length c']] w _
 go_enter Tryz.func18, Tryz.ntmps18
 go_wp2_with fail
 obtain ⟨W, hW⟩ := au ((w.alloc (.cells #[.int .i64 e.k, .int .i64 e.op, .string e.nm, .int .i64 e.v.k, .int .i64 e.v.n, .string e.v.s, .slice A e.v.l.length c, .slice A' e.ar.length c'] 27 (0, 0))))
 have hbw : Below w.heap.size w W := by rw [hW]; exact ((Below.refl _ w).alloc (Nat.le_refl _) _)
 have B0 : af W (w.heap.size) 27 #[.int .i64 e.k, .int .i64 e.op, .string e.nm, .int .i64 e.v.k, .int .i64 e.v.n, .string e.v.s, .slice A e.v.l.length c, .slice A' e.ar.length c'] := by
  rw [hW]
  have := af.new w 27 #[.int .i64 e.k, .int .i64 e.op, .string e.nm, .int .i64 e.v.k, .int .i64 e.v.n, .string e.v.s, .slice A e.v.l.length c, .slice A' e.ar.length c']
  exact this
 have hsz : W.heap.size = w.heap.size + 1 := by rw [hW]; simp
 rw [← hW]
 clear hW
 refine (Bi e B _ W (HX.out.keep (hbw.mono hB)) (by omega) (by omega)).mono ?_
 rw [HP.out.1, HP.out.2]
 rintro en w1 ⟨rfl, hb1⟩
 have B0 := B0.below hb1 B0.lt
 have hbw := hbw.trans (hb1.mono hbw.size)
 clear hb1 hsz
 obtain ⟨aQ, aS, aT, aU, aY, aZ, bu, bz⟩ := af.c8 B0
 by_cases h3 : 300 < p
 ·
  have b3 : decide ((300 : Int) < (p : Nat)) = true := by simp; omega
  have HG := qh (show ik e = 2 by unfold ik; rw [if_pos (.inl (by rw [HP.out.1]; exact h3))])
  clear h3
  go_wp2
  go_ret
  exact ⟨ah (by rw [HG.out]), hbw⟩
 have b3 : decide ((300 : Int) < (p : Nat)) = false := by simp; omega
 by_cases h20 : 20 < d
 ·
  have b20 : decide ((20 : Int) < (d : Nat)) = true := by simp; omega
  have HG := qh (show ik e = 2 by unfold ik; rw [if_pos (.inr (by rw [HP.out.2]; exact h20))])
  clear h3 h20
  go_wp2
  go_ret
  exact ⟨ah (by rw [HG.out]), hbw⟩
 have b20 : decide ((20 : Int) < (d : Nat)) = false := by simp; omega
 have HG := qh (show ik e = e.fault by unfold ik; rw [if_neg (by rw [HP.out.1, HP.out.2]; omega)])
 clear h3 h20
 go_wp2_with fail
 refine (Lj e B _ w1 (HX.out.keep (hbw.mono hB)) (Nat.le_trans hB hbw.size) hp (bD DK.out hbw)).mono ?_
 rintro en w2 ⟨rfl, hb2⟩
 have hbw := hbw.trans (hb2.mono hbw.size)
 clear hb2 aQ aS aT aU aY aZ bu bz
 go_wp2
 go_ret
 exact ⟨ah (by rw [HG.out]), hbw⟩
def Gu (l : List ByteArray) : List Value := l.map Value.string
theorem Tn (l : List ByteArray) : (Gu l).length = l.length := by simp [Gu]
theorem Reads.plain {w : World} {B n : Nat} {A : Option Addr} {xs : List Value} (h : Reads w B 1 A n xs) (hn : 0 < n) : ∃ b o, A = some ⟨b, o, none⟩ ∧ b < B ∧ ∀ j u, xs[j]? = some u → w.cell? ⟨b, o + j, none⟩ = some u := by
 obtain ⟨ad, rfl, hb, hc⟩ := h.2 hn
 have hl : 0 < xs.length := by have := h.1; omega
 have h0 := hc 0 _ (List.getElem?_eq_getElem hl)
 obtain ⟨b, o, s⟩ := ad
 have hs : s = none := by
  cases s with
  | none => rfl
  | some z =>
   rw [show Addr.add ⟨b, o, some z⟩ 0 = ⟨b, o, some z⟩ from rfl] at h0
   unfold World.cell? at h0
   simp at h0
   split at h0 <;> simp at h0
 subst hs
 refine ⟨b, o, rfl, hb, fun j u hu => ?_⟩
 have := hc j u hu
 unfold Addr.add at this
 split at this
 ·
  rename_i e; subst e; exact this
 ·
  exact this
abbrev xg (w : World) (B : Nat) (A : Option Addr) (l : List ByteArray) : Prop := Reads w B 1 A l.length (Gu l)
theorem xg.cells {w : World} {b o : Nat} {l : List ByteArray} (h : ∀ j u, (Gu l)[j]? = some u → w.cell? ⟨b, o + j, none⟩ = some u) : ∀ j, j < l.length → w.cell? ⟨b, o + j, none⟩ = some (.string (l.getD j ByteArray.empty)) := by
 intro j hj
 refine h j _ ?_
 unfold Gu
 rw [List.getElem?_map, List.getElem?_eq_getElem hj]
 simp [List.getD, hj]
def R0 (v : Value) : Option (DataW Value × List MemPlace) := some (.held v, [])
def zN (kv : List (ByteArray × Value)) (s : ByteArray) : Option Value := match kv with
 | [] => none
 | p :: r => if p.1 = s then some p.2 else zN r s
structure og (w : World) (b : Nat) (kv : List (ByteArray × Value)) : Prop where
 ex : ∃ D, w.ownsMap Tryz.prog 9 R0 b kv.length D ∧ Maps.IsMap D ∧ ∀ (s : ByteArray) zd, D.atKey (.string s.data.toList) zd = (match zN kv s with | some v => .held v | none => zd)
theorem og.lt {w : World} {b : Nat} {kv : List (ByteArray × Value)} (h : og w b kv) : b < w.heap.size := h.ex.choose_spec.1.lt
theorem og.kept {w w' : World} {b : Nat} {kv : List (ByteArray × Value)} {row : Option Nat} (h : og w b kv) (hg : w.grownBy w' row) (hne : some b ≠ row) : og w' b kv := by
 obtain ⟨D, h1, h2, h3⟩ := h.ex
 exact ⟨⟨D, h1.kept hg hne, h2, h3⟩⟩
theorem og.same {w w' : World} {b : Nat} {kv : List (ByteArray × Value)} (h : og w b kv) (hb : w'.heap[b]? = w.heap[b]?) : og w' b kv := by
 obtain ⟨D, ⟨es, clock, h0, h1⟩, h2, h3⟩ := h.ex
 exact ⟨⟨D, ⟨es, clock, hb.trans h0, h1⟩, h2, h3⟩⟩
theorem og.alloc {w : World} {b : Nat} {kv : List (ByteArray × Value)} (h : og w b kv) (o : Obj) : og (w.alloc o) b kv := h.same (Below.heap_alloc w o b h.lt)
theorem og.setCell {w : World} {b : Nat} {kv : List (ByteArray × Value)} (h : og w b kv) {p : Addr} (hp : b ≠ p.block) (u : Value) : og (w.setCell p u) b kv := h.same (Below.heap_setCell w p u b hp)
theorem og.below {w w' : World} {b B : Nat} {kv : List (ByteArray × Value)} (h : og w b kv) (hb : Below B w w') (hB : b < B) : og w' b kv := h.same (hb.block b hB)
def lL {α : Type} (P : World → Nat → α → List Value → Prop) (size : Nat) (w : World) (B : Nat) (A : Option Addr) (l : List α) : Prop :=
 l.length ≤ maxLen ∧ ∃ cs, Reads w B size A l.length cs ∧ ∀ i (h : i < l.length), P w B l[i] ((cs.drop (i * size)).take size)
section
variable {α : Type} {P : World → Nat → α → List Value → Prop} {size B : Nat} {w w' : World} {A : Option Addr} {l : List α}
theorem lL.at_ (h : lL P size w B A l) {i : Nat} (hi : i < l.length) : ∃ ad ci, A = some ad ∧ ad.block < B ∧ P w B l[i] ci ∧ ∀ j u, ci[j]? = some u → w.cell? ((ad.add (i * size)).add j) = some u := by
 obtain ⟨-, cs, hr, hp⟩ := h
 obtain ⟨ad, rfl, hb, hc⟩ := hr.2 (by omega)
 refine ⟨ad, _, rfl, hb, hp i hi, fun j u hu => ?_⟩
 rw [pq]
 refine hc _ u ?_
 rw [List.getElem?_take] at hu
 split at hu
 ·
  rw [List.getElem?_drop] at hu; exact hu
 ·
  cases hu
theorem lL.keep (hP : ∀ d cs, P w B d cs → P w' B d cs) (h : lL P size w B A l) (hb : Below B w w') : lL P size w' B A l := by
 obtain ⟨h0, cs, hr, hp⟩ := h
 exact ⟨h0, cs, hr.below hb, fun i hi => hP _ _ (hp i hi)⟩
end
structure BC where
 nm : ByteArray
 loops : List ByteArray
structure BD where
 nm : ByteArray
 kind : Int
 loops : List ByteArray
structure yF (w : World) (B : Nat) (d : BC) (cs : List Value) : Prop where
 ex : ∃ A c, cs = [.string d.nm, .slice A d.loops.length c] ∧ xg w B A d.loops ∧ d.loops.length ≤ c
 h1 : d.nm.size ≤ maxLen
 h2 : d.loops.length ≤ maxLen
 h3 : ∀ s ∈ d.loops, s.size ≤ maxLen
structure yG (w : World) (B : Nat) (d : BD) (cs : List Value) : Prop where
 ex : ∃ A c, cs = [.string d.nm, .int .i64 d.kind, .slice A d.loops.length c] ∧ xg w B A d.loops ∧ d.loops.length ≤ c
 h1 : d.nm.size ≤ maxLen
 h2 : d.loops.length ≤ maxLen
 h3 : ∀ s ∈ d.loops, s.size ≤ maxLen
theorem yF.keep {w w' : World} {B : Nat} {d : BC} {cs : List Value} (h : yF w B d cs) (hb : Below B w w') : yF w' B d cs := by
 obtain ⟨⟨A, c, e, hx, hc⟩, h1, h2, h3⟩ := h
 exact ⟨⟨A, c, e, hx.below hb, hc⟩, h1, h2, h3⟩
theorem yG.keep {w w' : World} {B : Nat} {d : BD} {cs : List Value} (h : yG w B d cs) (hb : Below B w w') : yG w' B d cs := by
 obtain ⟨⟨A, c, e, hx, hc⟩, h1, h2, h3⟩ := h
 exact ⟨⟨A, c, e, hx.below hb, hc⟩, h1, h2, h3⟩
abbrev Gv := lL yF 2
abbrev Gw := lL yG 3
theorem Gv.keep {w w' : World} {B : Nat} {A : Option Addr} {l : List BC} (h : Gv w B A l) (hb : Below B w w') : Gv w' B A l := lL.keep (fun _ _ h => h.keep hb) h hb
theorem Gw.keep {w w' : World} {B : Nat} {A : Option Addr} {l : List BD} (h : Gw w B A l) (hb : Below B w w') : Gw w' B A l := lL.keep (fun _ _ h => h.keep hb) h hb
theorem xg.take {w : World} {B : Nat} {A : Option Addr} {l : List ByteArray} (h : xg w B A l) (k : Nat) : xg w B A (l.take k) := by
 refine ⟨by rw [Tn]; simp, fun hn => ?_⟩
 have hk : (l.take k).length ≤ l.length := List.length_take_le' _ _
 obtain ⟨ad, e, hb, hc⟩ := h.2 (by omega)
 refine ⟨ad, e, hb, fun j u hu => hc j u ?_⟩
 unfold Gu at hu ⊢
 rw [List.map_take, List.getElem?_take] at hu
 split at hu
 ·
  exact hu
 ·
  cases hu
structure XD (w : World) (B : Nat) (kv : List (ByteArray × Value)) (l : List BC) : Prop where
 no : ∀ s, zN kv s = none → ∀ d ∈ l, d.nm ≠ s
 yes : ∀ s v, zN kv s = some v → ∃ d cs, d ∈ l ∧ d.nm = s ∧ v = .agg cs.toArray ∧ yF w B d cs
 len : kv.length = l.length
 one : l.Pairwise (fun a b => a.nm ≠ b.nm)
structure XE (w : World) (B : Nat) (kv : List (ByteArray × Value)) (l : List BD) : Prop where
 no : ∀ s, zN kv s = none → ∀ d ∈ l, d.nm ≠ s
 yes : ∀ s v, zN kv s = some v → ∃ d cs, d ∈ l ∧ d.nm = s ∧ v = .agg cs.toArray ∧ yG w B d cs
 len : kv.length = l.length
 one : l.Pairwise (fun a b => a.nm ≠ b.nm)
theorem XD.keep {w w' : World} {B : Nat} {kv : List (ByteArray × Value)} {l : List BC} (h : XD w B kv l) (hb : Below B w w') : XD w' B kv l :=
 ⟨h.no, fun s v hv => by obtain ⟨d, cs, h1, h2, h3, h4⟩ := h.yes s v hv; exact ⟨d, cs, h1, h2, h3, h4.keep hb⟩, h.len, h.one⟩
theorem XE.keep {w w' : World} {B : Nat} {kv : List (ByteArray × Value)} {l : List BD} (h : XE w B kv l) (hb : Below B w w') : XE w' B kv l :=
 ⟨h.no, fun s v hv => by obtain ⟨d, cs, h1, h2, h3, h4⟩ := h.yes s v hv; exact ⟨d, cs, h1, h2, h3, h4.keep hb⟩, h.len, h.one⟩
theorem XD.nil (w : World) (B : Nat) : XD w B [] [] := ⟨(fun _ _ d hd => by cases hd), (fun s v hv => by cases hv), rfl, List.Pairwise.nil⟩
theorem XE.nil (w : World) (B : Nat) : XE w B [] [] := ⟨(fun _ _ d hd => by cases hd), (fun s v hv => by cases hv), rfl, List.Pairwise.nil⟩
theorem XD.add {w : World} {B : Nat} {kv : List (ByteArray × Value)} {l : List BC} (h : XD w B kv l) {d : BC} {cs : List Value} (hd : yF w B d cs) (hn : zN kv d.nm = none) : XD w B ((d.nm, .agg cs.toArray) :: kv) (l ++ [d]) := by
 refine ⟨fun s hs x hx => ?_, fun s v hv => ?_, by simp [h.len], ?_⟩
 ·
  rw [zN] at hs
  split at hs
  ·
   cases hs
  ·
   rename_i hne
   rcases List.mem_append.1 hx with h1 | h1
   ·
    exact h.no s hs x h1
   ·
    rw [List.mem_singleton] at h1; subst h1; exact hne
 ·
  rw [zN] at hv
  split at hv
  ·
   rename_i he
   injection hv with hv
   exact ⟨d, cs, by simp, he, hv.symm, hd⟩
  ·
   obtain ⟨d', cs', h1, h2, h3, h4⟩ := h.yes s v hv
   exact ⟨d', cs', List.mem_append_left _ h1, h2, h3, h4⟩
 ·
  rw [List.pairwise_append]
  refine ⟨h.one, List.pairwise_singleton _ _, fun a ha b hb => ?_⟩
  rw [List.mem_singleton] at hb
  subst hb
  exact h.no _ hn a ha
theorem XE.add {w : World} {B : Nat} {kv : List (ByteArray × Value)} {l : List BD} (h : XE w B kv l) {d : BD} {cs : List Value} (hd : yG w B d cs) (hn : zN kv d.nm = none) : XE w B ((d.nm, .agg cs.toArray) :: kv) (l ++ [d]) := by
 refine ⟨fun s hs x hx => ?_, fun s v hv => ?_, by simp [h.len], ?_⟩
 ·
  rw [zN] at hs
  split at hs
  ·
   cases hs
  ·
   rename_i hne
   rcases List.mem_append.1 hx with h1 | h1
   ·
    exact h.no s hs x h1
   ·
    rw [List.mem_singleton] at h1; subst h1; exact hne
 ·
  rw [zN] at hv
  split at hv
  ·
   rename_i he
   injection hv with hv
   exact ⟨d, cs, by simp, he, hv.symm, hd⟩
  ·
   obtain ⟨d', cs', h1, h2, h3, h4⟩ := h.yes s v hv
   exact ⟨d', cs', List.mem_append_left _ h1, h2, h3, h4⟩
 ·
  rw [List.pairwise_append]
  refine ⟨h.one, List.pairwise_singleton _ _, fun a ha b hb => ?_⟩
  rw [List.mem_singleton] at hb
  subst hb
  exact h.no _ hn a ha
end Go.Proofs.YtobanldeicclmaaGreatDoor
namespace Go.Proofs.YtobanldeicclmaaGreatDoor
open Go.RowKit Dig Vtx
theorem NR : (Tryz.prog.info? 3).map (fun i => (i.zero, i.size, i.bytes)) = some (some (.int .i64 0), 1, 8) := by kernel_rfl
theorem Gx (s p : ByteArray) (w : World) (hs : s.size ≤ 2000000) :
  Calls Tryz.prog 186 #[.string s, .string p] w fun e w' => (∃ t : ByteArray, e = .returned (.string t) ∧ t.data.toList = Lib.trimSuffix s.data.toList p.data.toList) ∧ w = w' :=
 (Tryz.strings_TrimSuffix s p w (by omega)).mono fun _ _ ⟨he, hw⟩ => ⟨⟨_, he, rfl⟩, hw.symm⟩
theorem ku {w : World} {B size n g i : Nat} {e : TypeId} {v : Value} {xs : List Value} (h : w.ownsRow B e size v n xs) (hg : g < B) (u : Value) : (w.setCell ⟨g, i, none⟩ u).ownsRow B e size v n xs := by
 refine ⟨h.1, h.2.imp id ?_⟩
 rintro ⟨g', cap, cur, e0, e1, e2, e3, e4, e5, e6⟩
 exact ⟨g', cap, cur, e0, e1, by rw [Below.heap_setCell w ⟨g, i, none⟩ u g' (by show g' ≠ g; omega)]; exact e2, e3, e4, e5, e6⟩
theorem BF {w : World} {B' n : Nat} {e : TypeId} {v : Value} {l : List Int} (h : w.ownsRow B' e 1 v n (dS .i64 l)) : n = l.length ∧ ∃ A c, v = .slice A l.length c ∧ Reads w w.heap.size 1 A l.length (dS .i64 l) ∧ ∀ ad, A = some ad → B' ≤ ad.block := by
 obtain ⟨h1, h2⟩ := id h
 have hn : n = l.length := by rw [zV] at h1; omega
 subst hn
 refine ⟨rfl, ?_⟩
 rcases h2 with ⟨rfl, e0⟩ | ⟨g, cap, cur, rfl, e1, e2, e3, e4, e5⟩
 ·
  have hl : l = [] := List.eq_nil_of_length_eq_zero e0
  subst hl
  exact ⟨none, 0, rfl, Reads.none_, fun _ h => by cases h⟩
 ·
  exact ⟨_, cap, rfl, Reads.uq (c := cap) h, fun ad h => by injection h with h; rw [← h]; exact e1⟩
theorem oW {w : World} {B' n c : Nat} {A : Option Addr} {e : TypeId} {l : List Int} (h : w.ownsRow B' e 1 (.slice A l.length c) n (dS .i64 l)) : Reads w w.heap.size 1 A l.length (dS .i64 l) ∧ ∀ ad, A = some ad → B' ≤ ad.block := by
 obtain ⟨-, A', c', e, h⟩ := BF h
 injection e with e1 _ _
 rw [e1]
 exact h
theorem Fj (xs : List Int) (a : Int) : dS .i64 (xs ++ [a]) = dS .i64 xs ++ [.int .i64 a] := by simp [dS]
structure acC (e : Ending) (w : World) (B : Nat) (s : List UInt8) : Prop where
 ex : ∃ A c l ok, e = .returned (.tuple #[.agg #[.int .i64 5, .int .i64 0, .string ⟨#[]⟩, .slice A (List.length (α := Int) l) c], .bool ok]) ∧ Reads w w.heap.size 1 A l.length (dS .i64 l) ∧ (∀ ad, A = some ad → B ≤ ad.block) ∧ l.length ≤ 2000001 ∧
  (ok = true → jM s = some l) ∧ (ok = false → jM s = none)
theorem Je (p : List UInt8) (r : List (List UInt8)) (a : Nat) (ok : Bool) (h : dN (Lib.trimPrefix p [35]) = (a, ok)) : nG (p :: r) = if ok then (nG r).map ((a : Int) :: ·) else none := by
 rw [nG, h]
theorem Jf (o : Option (List Int)) (xs : List Int) (a : Int) : (o.map (a :: ·)).map (xs ++ ·) = o.map ((xs ++ [a]) ++ ·) := by cases o <;> simp
theorem Jg (s : ByteArray) (w : World) (hs : s.size ≤ 2000000) (hm : Mx w) :
  Calls Tryz.prog 188 #[.string s] w fun e w' => acC e w' w.heap.size s.data.toList ∧ Below w.heap.size w w' := by
 have HM := qh hm
 clear hm
 obtain ⟨i0, hi0, hz0, hz1, hz2⟩ := info_parts NR
 go_enter Tryz.func188, Tryz.ntmps188
 go_wp2_with fail
 obtain ⟨W, hW⟩ := au (((w.alloc (.cells #[.int .i64 0, .int .i64 0, .string ⟨#[]⟩, .slice none 0 0] 24 (0, 0))).alloc (.cells #[.int .i64 5, .int .i64 0, .string ⟨#[]⟩, .slice none 0 0] 24 (0, 0))))
 have hbw : Below w.heap.size w W := by rw [hW]; exact (((Below.refl _ w).alloc (Nat.le_refl _) _).alloc (by simp) _)
 have B0 : af W (w.heap.size) 24 #[.int .i64 0, .int .i64 0, .string ⟨#[]⟩, .slice none 0 0] := by
  rw [hW]
  have := af.new w 24 #[.int .i64 0, .int .i64 0, .string ⟨#[]⟩, .slice none 0 0]
  have := this.alloc (.cells #[.int .i64 5, .int .i64 0, .string ⟨#[]⟩, .slice none 0 0] 24 (0, 0))
  exact this
 have B1 : af W (w.heap.size + 1) 24 #[.int .i64 5, .int .i64 0, .string ⟨#[]⟩, .slice none 0 0] := by
  rw [hW]
  have := af.new (w.alloc (.cells #[.int .i64 0, .int .i64 0, .string ⟨#[]⟩, .slice none 0 0] 24 (0, 0))) 24 #[.int .i64 5, .int .i64 0, .string ⟨#[]⟩, .slice none 0 0]
  rwa [World.size_alloc] at this
 have hsz : W.heap.size = w.heap.size + 2 := by rw [hW]; simp
 rw [← hW]
 clear hW hsz
 refine (vF s ⟨#[123]⟩ W).mono ?_
 rintro e w1 ⟨⟨t1, rfl, ht1⟩, rfl⟩
 have hl1 : t1.size ≤ s.size := by rw [fB ht1]; exact Lib.trimPrefix_le _ _
 have HT1 := qh ht1
 clear ht1
 go_wp2_with fail
 refine (Gx t1 ⟨#[125]⟩ W (by omega)).mono ?_
 rintro e w1 ⟨⟨t, rfl, ht⟩, rfl⟩
 have hl2 : t.size ≤ t1.size := by rw [fB ht]; exact Lib.trimSuffix_le _ _
 rw [HT1.out] at ht
 have HT := qh (show t.data.toList = nH s.data.toList from ht)
 clear ht HT1
 obtain ⟨aQ, eX, aS, eY, aT, fD, aU, fE⟩ := af.z4 B0
 obtain ⟨rf, ug, uh, sH⟩ := af.c4 B1
 by_cases h0 : t = ⟨#[]⟩
 ·
  have HE := qh (show jM s.data.toList = some [] by unfold jM; rw [← HT.out, h0]; rfl)
  subst h0
  go_wp2
  obtain ⟨W9, dI, B9, di⟩ := bG B0 hbw (.int .i64 5) (.int .i64 0) (.string ⟨#[]⟩) (.slice none 0 0)
  rw [← dI]
  clear dI
  obtain ⟨iW, qc1, qc2, qc3⟩ := af.c4 B9
  refine bodyPost_ret (v := .tuple #[.agg #[.int .i64 5, .int .i64 0, .string ⟨#[]⟩, .slice none 0 0], .bool true]) (by simp [results, Tryz.results188, go_sem, iW, qc1, qc2, qc3]) rfl ⟨⟨⟨none, 0, [], true, rfl, Reads.none_, (fun _ h => by cases h), by simp, fun _ => HE.out, fun h => by cases h⟩⟩, di⟩
 have hne : t.data.toList ≠ [] := fun e => h0 (nV e)
 have se : t.toList.isEmpty = false := by rw [ByteArray.toList_eq]; simpa using hne
 have HE := qh (show jM s.data.toList = nG (Lib.split t.data.toList [44]) by unfold jM; rw [← HT.out, if_neg hne])
 clear hne h0 HT aQ eX aS eY aT fD aU fE rf ug uh sH
 go_wp2_with fail
 refine (vG t 44 W (by omega) (HM.out.below hbw)).mono ?_
 rintro e w1 ⟨ps, rfl, hw1, hps, hpl⟩
 have hb1 : Below W.heap.size W w1 := hw1 ▸ (Below.refl _ W).alloc (Nat.le_refl _) _
 have hsz1 : w1.heap.size = W.heap.size + 1 := by rw [hw1]; simp
 have B2 : af w1 W.heap.size 9 (ps.map Value.string).toArray := hw1 ▸ af.new W _ _
 rw [← hps] at HE
 have hWs := B1.lt
 have B0 := B0.below hb1 B0.lt
 have B1 := B1.below hb1 B1.lt
 have hbw := hbw.trans (hb1.mono hbw.size)
 have hpm : ps.length ≤ 2000001 := by omega
 have hlt1 : W.heap.size < w1.heap.size := by omega
 have HB0 := qh B0
 have HB1 := qh B1
 have HB2 := qh B2
 have hg0 : w.heap.size < w1.heap.size := B0.lt
 have hg1 : w.heap.size + 1 < w1.heap.size := B1.lt
 have hgW : w.heap.size + 1 < W.heap.size := hWs
 clear hps hw1 hb1 hpl hsz1 B0 B1 B2 hWs
 go_wp2
 go_loopw [19] (fun i wr => ∃ (k : Nat) (v : Value) (xs : List Int), k ≤ ps.length ∧ i = .int .i64 k ∧ Hid (af wr w.heap.size 24 #[.int .i64 0, .int .i64 0, .string ⟨#[]⟩, .slice none 0 0]) ∧ Hid (af wr (w.heap.size + 1) 24 #[.int .i64 5, .int .i64 0, .string ⟨#[]⟩, v]) ∧ Hid (af wr W.heap.size 9 (ps.map Value.string).toArray) ∧
   Hid (wr.ownsRow w1.heap.size 3 1 v k (dS .i64 xs)) ∧ Hid (nG (ps.map (·.data.toList)) = (nG ((ps.map (·.data.toList)).drop k)).map (xs ++ ·)) ∧ Below w.heap.size w wr ∧ w1.heap.size ≤ wr.heap.size) (fun i _ => ps.length - (intOf i).toNat)
 case atStart => exact ⟨0, _, [], Nat.zero_le _, rfl, HB0, HB1, HB2, qh (World.ownsRow_nil _ _ _ _), qh (by simp), hbw, Nat.le_refl _⟩
 case round =>
  obtain ⟨k, v, xs, hk, rfl, B0, B1, B2, HO, HC, hbr, tV⟩ := hrel
  clear HB0 HB1 HB2
  obtain ⟨hkx, A, c, rfl, -⟩ := BF HO.out
  have HKX := qh hkx
  clear hkx
  by_cases hlt : k < ps.length
  ·
   obtain ⟨p, hp⟩ := ae (ps[k])
   have pc : wr.cell? ⟨W.heap.size, k, none⟩ = some (.string p) := by rw [B2.out.cell k]; simp [hlt, hp]
   have HD := qh (show (ps.map (·.data.toList)).drop k = p.data.toList :: (ps.map (·.data.toList)).drop (k + 1) by
    rw [List.drop_eq_getElem_cons (by simpa using hlt), List.getElem_map, hp])
   clear hp
   go_wp2_with fail
   refine (vF p ⟨#[35]⟩ wr).mono ?_
   rintro e w2 ⟨⟨q, rfl, hq⟩, rfl⟩
   obtain ⟨a, ok, hwf, hwv, ha⟩ := kJ q.data.toList
   have HWV := qh hwv
   have ZA := qh (Je p.data.toList ((ps.map (·.data.toList)).drop (k + 1)) a ok (by rw [← hwf, hq]))
   clear hq hwf hwv pc
   go_wp2_with fail
   refine (nJ q wr).mono ?_
   rw [HWV.out]
   rintro e w2 ⟨rfl, rfl⟩
   clear HWV
   cases ok
   ·
    have HF := qh (show jM s.data.toList = none by
     rw [HE.out, HC.out, HD.out, ZA.out]; rfl)
    have hxl : xs.length ≤ 2000001 := by have := HKX.out; omega
    have B0 := B0.out
    have B1 := B1.out
    obtain ⟨aQ, eX, aS, eY, aT, fD, aU, fE⟩ := af.z4 B0
    obtain ⟨rf, Vl, ug, Vm, uh, Vo, sH, Q7⟩ := af.z4 B1
    clear HC HD ZA
    go_wp2
    obtain ⟨W9, dI, B9, di⟩ := bG B0 hbr (.int .i64 5) (.int .i64 0) (.string ⟨#[]⟩) (.slice A xs.length c)
    have XF := qh (dI ▸ ku (ku (ku (ku HO.out hg0 _) hg0 _) hg0 _) hg0 _ : W9.ownsRow w1.heap.size 3 1 (.slice A xs.length c) k (dS .i64 xs))
    rw [← dI]
    clear dI
    obtain ⟨iW, qc1, qc2, qc3⟩ := af.c4 B9
    refine bodyPost_ret (v := .tuple #[.agg #[.int .i64 5, .int .i64 0, .string ⟨#[]⟩, .slice A xs.length c], .bool false]) (by simp [results, Tryz.results188, go_sem, iW, qc1, qc2, qc3]) rfl ⟨⟨⟨A, c, xs, false, rfl, (oW XF.out).1, (fun ad h => Nat.le_of_lt (Nat.lt_of_lt_of_le hg0 ((oW XF.out).2 ad h))), hxl, (fun h => by cases h), fun _ => HF.out⟩⟩, di⟩
   ·
    have B0 := B0.out
    have B1 := B1.out
    have B2 := B2.out
    have hrow : ∀ g, Value.ownBlock (.slice A xs.length c) = some g → w1.heap.size ≤ g := fun g hg => (HO.out.lt g hg).1
    have yH := qh hrow
    have HC2 := qh (show nG (ps.map (·.data.toList)) = (nG ((ps.map (·.data.toList)).drop (k + 1))).map ((xs ++ [(a : Int)]) ++ ·) by
     rw [HC.out, HD.out, ZA.out, if_pos rfl, Jf])
    clear hrow HC HD ZA
    obtain ⟨rf, Vl, ug, Vm, uh, Vo, sH, Q7⟩ := af.z4 B1
    go_wp2_with (at_builtin; refine wpList_append_own _ rfl _ _ 22 rfl w1.heap.size 3 i0 (.int .i64 0) 1 8 Tryz.underlying22 hi0 hz0 hz1 hz2 rfl (by decide) _ _ _ rfl (HO.out.alloc _) ⟨wr.heap.size, 0, none⟩ 1 1 [.int .i64 (a : Nat)] rfl rfl ?c1 ?c2 ?c3 ?c4 ?c5 ?_)
    case c1 => intro j u hj; cases j <;> simp_all [go_sem]
    case c2 => intro u hu; simp only [List.mem_singleton] at hu; subst hu; rfl
    case c3 => unfold maxLen; omega
    case c4 => omega
    case c5 => simp; omega
    intro v2 w3 hown3 hg3 _
    have hs3 : wr.heap.size + 1 ≤ w3.heap.size := by have := hg3.size; simpa using this
    have B0' : af w3 w.heap.size 24 #[.int .i64 0, .int .i64 0, .string ⟨#[]⟩, .slice none 0 0] := (B0.alloc _).grown hg3 (fun e => by have := yH.out _ e.symm; omega)
    have Yt : af w3 (w.heap.size + 1) 24 #[.int .i64 5, .int .i64 0, .string ⟨#[]⟩, .slice A xs.length c] := (B1.alloc _).grown hg3 (fun e => by have := yH.out _ e.symm; omega)
    have B2' : af w3 W.heap.size 9 (ps.map Value.string).toArray := (B2.alloc _).grown hg3 (fun e => by have := yH.out _ e.symm; omega)
    have hb3 : Below w.heap.size w w3 := (hbr.alloc (by omega) _).grown hg3 (by simp; omega) (fun g hg => by have := yH.out g hg; omega)
    have XG := qh (show w3.ownsRow w1.heap.size 3 1 v2 (k + 1) (dS .i64 (xs ++ [(a : Int)])) by rw [Fj]; exact hown3)
    obtain ⟨ao, n', cap, rfl⟩ : ∃ ao n' cap, v2 = .slice ao n' cap := by
     rcases hown3.2 with ⟨hv, _⟩ | ⟨g, cap, cur, hv, _⟩
     ·
      exact ⟨_, _, _, hv⟩
     ·
      exact ⟨_, _, _, hv⟩
    clear hown3 hg3 rf Vl ug Vm uh Vo sH Q7
    have sH : w3.cell? ⟨w.heap.size + 1, 3, none⟩ = some (.slice A xs.length c) := Yt.cell 3
    have Q7 : w3.frozen? ⟨w.heap.size + 1, 3, none⟩ = false := Yt.frozen 3
    go_wp2
    go_roundw
    case rel => exact ⟨k + 1, _, xs ++ [(a : Int)], by omega, by go_num, qh (B0'.far (p := ⟨w.heap.size + 1, 3, none⟩) (by show w.heap.size ≠ w.heap.size + 1; omega) _), qh (Yt.kE 3 _), qh (B2'.far (p := ⟨w.heap.size + 1, 3, none⟩) (by show W.heap.size ≠ w.heap.size + 1; omega) _), qh (ku XG.out hg1 _), HC2, hb3.setCell (p := ⟨w.heap.size + 1, 3, none⟩) (by show w.heap.size ≤ w.heap.size + 1; omega) _, by simp [World.setCell]; omega⟩
    case measure => simp [intOf]; omega
  ·
   have HF := qh (show jM s.data.toList = some xs by
    rw [HE.out, HC.out, List.drop_eq_nil_of_le (by simp; omega)]; simp [nG])
   have hxl : xs.length ≤ 2000001 := by have := HKX.out; omega
   have B0 := B0.out
   have B1 := B1.out
   obtain ⟨aQ, eX, aS, eY, aT, fD, aU, fE⟩ := af.z4 B0
   obtain ⟨rf, Vl, ug, Vm, uh, Vo, sH, Q7⟩ := af.z4 B1
   clear HC
   go_wp2
   obtain ⟨W9, dI, B9, di⟩ := bG B0 hbr (.int .i64 5) (.int .i64 0) (.string ⟨#[]⟩) (.slice A xs.length c)
   have XF := qh (dI ▸ ku (ku (ku (ku HO.out hg0 _) hg0 _) hg0 _) hg0 _ : W9.ownsRow w1.heap.size 3 1 (.slice A xs.length c) k (dS .i64 xs))
   rw [← dI]
   clear dI
   obtain ⟨iW, qc1, qc2, qc3⟩ := af.c4 B9
   refine bodyPost_ret (v := .tuple #[.agg #[.int .i64 5, .int .i64 0, .string ⟨#[]⟩, .slice A xs.length c], .bool true]) (by simp [results, Tryz.results188, go_sem, iW, qc1, qc2, qc3]) rfl ⟨⟨⟨A, c, xs, true, rfl, (oW XF.out).1, (fun ad h => Nat.le_of_lt (Nat.lt_of_lt_of_le hg0 ((oW XF.out).2 ad h))), hxl, fun _ => HF.out, fun h => by cases h⟩⟩, di⟩
end Go.Proofs.YtobanldeicclmaaGreatDoor
