/- typed for operations. · typed for aggregates. · typed, whole. · The reference's kind whole; TypeOf of both. · PLAIN. Laws of the orders of numbers and lists (for seats that lay Compare). · Bounds and rows of a scene: as they lie in memory, and what is wrong with them. -/
import Derived.Test.YtpanbeoelbhhgaaGreatDoorY14
import Derived.Deep.RegionHeld3
import Derived.Deep.AppendLies
import Derived.Test.YtpanbeoelbhhgaaGreatDoorY9
namespace Go.Proofs.YtpanbeoelbhhgaaGreatDoor
open Go.RowKit
attribute [local go_sem ↓] Go.wp_at_zero Go.wp_at_succ
theorem infoInt : (Tryz.prog.info? 3).map (fun i => (i.zero, i.size, i.bytes)) = some (some (.int .i64 0), 1, 8) := by kernel_rfl
theorem own_ints {w : World} {B' n : Nat} {e : TypeId} {v : Value} {l : List Int} (h : w.ownsRow B' e 1 v n (numV .i64 l)) : n = l.length ∧ ∃ A c, v = .slice A l.length c ∧ Reads w w.heap.size 1 A l.length (numV .i64 l) ∧ ∀ ad, A = some ad → B' ≤ ad.block := by
  obtain ⟨h1, h2⟩ := id h
  have hn : n = l.length := by rw [numV_len] at h1; omega
  subst hn
  refine ⟨rfl, ?_⟩
  rcases h2 with ⟨rfl, e0⟩ | ⟨g, cap, cur, rfl, e1, e2, e3, e4, e5⟩
  · have hl : l = [] := List.eq_nil_of_length_eq_zero e0
    subst hl
    exact ⟨none, 0, rfl, Reads.none_, fun _ h => by cases h⟩
  · exact ⟨_, cap, rfl, Reads.of_own (c := cap) h, fun ad h => by injection h with h; rw [← h]; exact e1⟩
theorem own_reads {w : World} {B' n c : Nat} {A : Option Addr} {e : TypeId} {l : List Int} (h : w.ownsRow B' e 1 (.slice A l.length c) n (numV .i64 l)) : Reads w w.heap.size 1 A l.length (numV .i64 l) ∧ ∀ ad, A = some ad → B' ≤ ad.block := by
  obtain ⟨-, A', c', e, h⟩ := own_ints h
  injection e with e1 _ _
  rw [e1]
  exact h
theorem numV_snoc (xs : List Int) (a : Int) : numV .i64 (xs ++ [a]) = numV .i64 xs ++ [.int .i64 a] := by simp [numV]
theorem own_below {w w' : World} {B size n : Nat} {e : TypeId} {v : Value} {xs : List Value} (h : w.ownsRow B e size v n xs) (hb : Below w.heap.size w w') : w'.ownsRow B e size v n xs := by
  refine ⟨h.1, h.2.imp id ?_⟩
  rintro ⟨g', cap, cur, e0, e1, e2, e3⟩
  have hlt : g' < w.heap.size := (h.lt g' (by rw [e0]; rfl)).2
  exact ⟨g', cap, cur, e0, e1, by rw [hb.block g' hlt]; exact e2, e3⟩
theorem arOf_le (op : Int) : (arOf op).2 ≤ 1099511627776 := by
  unfold arOf
  repeat' split
  all_goals decide
def TySpec (cells : List CellD) (loops : List NestD) (kv1 kv2 : List (ByteArray × Value)) (m1 m2 : Nat) (e : Ex) : Prop := ∀ (B : Nat) (at_ : List ByteArray) (A : Option Addr) (c : Nat) (cs : List Value) (w : World), ExAt w B e cs → TyW w B m1 m2 kv1 kv2 cells loops → at_.length ≤ maxLen → StrsAt w B A at_ → at_.length ≤ c → B ≤ w.heap.size →
    Calls Tryz.prog 17 #[.agg #[.map (some m1), .map (some m2)], .agg cs.toArray, .slice A at_.length c] w fun en w' => en = .returned (.tuple #[.int .i64 (e.kind cells loops at_).1, .int .i64 (e.kind cells loops at_).2]) ∧ Below w.heap.size w w'
set_option maxHeartbeats 2000000 in
set_option maxRecDepth 100000 in
theorem typed_4 (e : Ex) (cells : List CellD) (loops : List NestD) (hk : e.k = 4) (kv1 kv2 : List (ByteArray × Value)) (m1 m2 B : Nat) (at_ : List ByteArray) (A : Option Addr) (c : Nat) (cs : List Value) (w : World) (hP : PartOk e) (hI : ∀ a ∈ e.ar, TySpec cells loops kv1 kv2 m1 m2 a) (hx : ExAt w B e cs) (hw : TyW w B m1 m2 kv1 kv2 cells loops) (ha : at_.length ≤ maxLen) (hat : StrsAt w B A at_) (hc : at_.length ≤ c) (hB : B ≤ w.heap.size) :
    Calls Tryz.prog 17 #[.agg #[.map (some m1), .map (some m2)], .agg cs.toArray, .slice A at_.length c] w fun en w' => en = .returned (.tuple #[.int .i64 (e.kind cells loops at_).1, .int .i64 (e.kind cells loops at_).2]) ∧ Below w.heap.size w w' := by
  have HXA := Lib.hid hx
  obtain ⟨hn, hs, hl, ha8, hx, hr, hi⟩ := hx
  rename_i A1 c1 A2 c2 cs
  have HK := Lib.hid (show e.kind cells loops at_ = if (kindsL cells loops e.ar at_ []).1 ≠ 0 then (0, (kindsL cells loops e.ar at_ []).1) else opT e.op (kindsL cells loops e.ar at_ []).2 by rw [kind_eq, if_neg (by omega), if_neg (by omega), if_neg (by omega), if_neg (by omega)])
  have hk1 : (e.k == 1) = false := by rw [hk]; rfl
  have hk2 : (e.k == 2) = false := by rw [hk]; rfl
  have hk3 : (e.k == 3) = false := by rw [hk]; rfl
  have hk5 : (e.k == 5) = false := by rw [hk]; rfl
  have HWW := Lib.hid hw
  have HAT := Lib.hid (And.intro ha (And.intro hat (And.intro hc hB)))
  have HR := Lib.hid (And.intro hr hi)
  have HI := Lib.hid hI
  have HA := Lib.hid ha8
  have HP := Lib.hid (And.intro (hP.op4 hk) (hP.a4 hk))
  obtain ⟨i0, hi0, hz0, hz1, hz2⟩ := info_parts infoInt
  unfold maxLen at ha8
  clear hx hr hi hw hat hB hk hI hP
  show Calls Tryz.prog 17 #[.agg #[.map (some m1), .map (some m2)], .agg #[.int .i64 e.k, .int .i64 e.op, .string e.nm, .int .i64 e.v.k, .int .i64 e.v.n, .string e.v.s, .slice A1 e.v.l.length c1, .slice A2 e.ar.length c2], .slice A at_.length c] w _
  go_enter Tryz.func17, Tryz.ntmps17
  go_upto_region 1 with (fail)
  obtain ⟨W, hW⟩ : ∃ W, W = ((w.alloc (.cells #[.map (some m1), .map (some m2)] 57 (0, 0))).alloc (.cells #[.int .i64 e.k, .int .i64 e.op, .string e.nm, .int .i64 e.v.k, .int .i64 e.v.n, .string e.v.s, .slice A1 e.v.l.length c1, .slice A2 e.ar.length c2] 27 (0, 0))) := ⟨_, rfl⟩
  have hbw : Below w.heap.size w W := by rw [hW]; exact (((Below.refl _ w).alloc (Nat.le_refl _) _).alloc (by simp) _)
  have B0 : Blk W (w.heap.size) 57 #[.map (some m1), .map (some m2)] := by
    rw [hW]
    have := Blk.new w 57 #[.map (some m1), .map (some m2)]
    have := this.alloc (.cells #[.int .i64 e.k, .int .i64 e.op, .string e.nm, .int .i64 e.v.k, .int .i64 e.v.n, .string e.v.s, .slice A1 e.v.l.length c1, .slice A2 e.ar.length c2] 27 (0, 0))
    exact this
  have B1 : Blk W (w.heap.size + 1) 27 #[.int .i64 e.k, .int .i64 e.op, .string e.nm, .int .i64 e.v.k, .int .i64 e.v.n, .string e.v.s, .slice A1 e.v.l.length c1, .slice A2 e.ar.length c2] := by
    rw [hW]
    have := Blk.new (w.alloc (.cells #[.map (some m1), .map (some m2)] 57 (0, 0))) 27 #[.int .i64 e.k, .int .i64 e.op, .string e.nm, .int .i64 e.v.k, .int .i64 e.v.n, .string e.v.s, .slice A1 e.v.l.length c1, .slice A2 e.ar.length c2]
    rwa [World.size_alloc] at this
  have hsz : W.heap.size = w.heap.size + 2 := by rw [hW]; simp
  rw [← hW]
  have wc0 : W.cell? ⟨w.heap.size, 0, none⟩ = some (.map (some m1)) := B0.cell 0
  have wc1 : W.cell? ⟨w.heap.size, 1, none⟩ = some (.map (some m2)) := B0.cell 1
  have ec0 : W.cell? ⟨w.heap.size + 1, 0, none⟩ = some (.int .i64 e.k) := B1.cell 0
  have ec1 : W.cell? ⟨w.heap.size + 1, 1, none⟩ = some (.int .i64 e.op) := B1.cell 1
  have ec2 : W.cell? ⟨w.heap.size + 1, 2, none⟩ = some (.string e.nm) := B1.cell 2
  have ec3 : W.cell? ⟨w.heap.size + 1, 3, none⟩ = some (.int .i64 e.v.k) := B1.cell 3
  have ec4 : W.cell? ⟨w.heap.size + 1, 4, none⟩ = some (.int .i64 e.v.n) := B1.cell 4
  have ec5 : W.cell? ⟨w.heap.size + 1, 5, none⟩ = some (.string e.v.s) := B1.cell 5
  have ec6 : W.cell? ⟨w.heap.size + 1, 6, none⟩ = some (.slice A1 e.v.l.length c1) := B1.cell 6
  have ec7 : W.cell? ⟨w.heap.size + 1, 7, none⟩ = some (.slice A2 e.ar.length c2) := B1.cell 7
  have hbr : Below W.heap.size W W := Below.refl _ _
  clear hW hsz
  go_wp2_with fail
  go_loopw [101, 14] (fun i kd wr => ∃ (k : Nat) (v : Value) (ks : List Int), k ≤ e.ar.length ∧ i = .int .i64 k ∧ kd = v ∧ Hid (wr.ownsRow W.heap.size 3 1 v k (numV .i64 ks)) ∧ Hid (kindsL cells loops e.ar at_ [] = kindsL cells loops (e.ar.drop k) at_ ks) ∧ Below W.heap.size W wr) (fun i _ _ => e.ar.length - (intOf i).toNat)
  case atStart => exact ⟨0, _, [], Nat.zero_le _, rfl, rfl, Lib.hid (World.ownsRow_nil _ _ _ _), Lib.hid (by rfl), hbr⟩
  case round =>
    obtain ⟨k, v, ks, hk, rfl, rfl, HO, HD, hbr⟩ := hrel
    obtain ⟨hkx, A5, c5, rfl, -⟩ := own_ints HO.out
    have HKX := Lib.hid hkx
    clear hkx
    have hsr := hbr.size
    have hwr : Below w.heap.size w wr := hbw.trans (hbr.mono hbw.size)
    have hBr : Below B w wr := hwr.mono HAT.out.2.2.2
    have C0 := B0.below hbr B0.lt
    have C1 := B1.below hbr B1.lt
    clear wc0 wc1 ec0 ec1 ec2 ec3 ec4 ec5 ec6 ec7
    have uc0 : wr.cell? ⟨w.heap.size, 0, none⟩ = some (.map (some m1)) := C0.cell 0
    have uc1 : wr.cell? ⟨w.heap.size, 1, none⟩ = some (.map (some m2)) := C0.cell 1
    have qc0 : wr.cell? ⟨w.heap.size + 1, 0, none⟩ = some (.int .i64 e.k) := C1.cell 0
    have qc1 : wr.cell? ⟨w.heap.size + 1, 1, none⟩ = some (.int .i64 e.op) := C1.cell 1
    have qc2 : wr.cell? ⟨w.heap.size + 1, 2, none⟩ = some (.string e.nm) := C1.cell 2
    have qc3 : wr.cell? ⟨w.heap.size + 1, 3, none⟩ = some (.int .i64 e.v.k) := C1.cell 3
    have qc4 : wr.cell? ⟨w.heap.size + 1, 4, none⟩ = some (.int .i64 e.v.n) := C1.cell 4
    have qc5 : wr.cell? ⟨w.heap.size + 1, 5, none⟩ = some (.string e.v.s) := C1.cell 5
    have qc6 : wr.cell? ⟨w.heap.size + 1, 6, none⟩ = some (.slice A1 e.v.l.length c1) := C1.cell 6
    have qc7 : wr.cell? ⟨w.heap.size + 1, 7, none⟩ = some (.slice A2 e.ar.length c2) := C1.cell 7
    by_cases hlt : k < e.ar.length
    · obtain ⟨ad, ci, rfl, hb, hci, hcell⟩ := ExAt.arg (HR.out.1.below hBr) (fun i h => (HR.out.2 i h).keep hBr) hlt
      obtain ⟨a, hea⟩ : ∃ a, e.ar[k] = a := ⟨_, rfl⟩
      have ham : a ∈ e.ar := by rw [← hea]; exact List.getElem_mem hlt
      obtain ⟨g, hg⟩ : ∃ g, a.kind cells loops at_ = g := ⟨_, rfl⟩
      obtain ⟨g1, g2⟩ := g
      have HGF := Lib.hid hg
      have HDD := Lib.hid (show kindsL cells loops (e.ar.drop k) at_ ks = if g2 ≠ 0 then (g2, ks) else kindsL cells loops (e.ar.drop (k + 1)) at_ (ks ++ [g1]) by
        rw [kindsL_step _ _ _ _ _ _ hlt, hea, hg])
      have HLT := Lib.hid hlt
      have HI1 := Lib.hid (fun w' h1 h2 h3 h4 => HI.out a ham B at_ A c ci w' h1 h2 HAT.out.1 h3 HAT.out.2.2.1 h4)
      rw [hea] at hci
      have HCI := Lib.hid hci
      obtain ⟨hn1, hs1, hl1, ha1, hx1, hr1, hi1⟩ := hci
      rename_i A3 c3 A4 c4 cs1
      have fc0 : wr.cell? (ad.add (k * 8)) = some (.int .i64 a.k) := hcell 0 _ rfl
      have fc1 : wr.cell? ⟨(ad.add (k * 8)).block, (ad.add (k * 8)).off + 1, none⟩ = some (.int .i64 a.op) := hcell 1 _ rfl
      have fc2 : wr.cell? ⟨(ad.add (k * 8)).block, (ad.add (k * 8)).off + 2, none⟩ = some (.string a.nm) := hcell 2 _ rfl
      have fc3 : wr.cell? ⟨(ad.add (k * 8)).block, (ad.add (k * 8)).off + 3, none⟩ = some (.int .i64 a.v.k) := hcell 3 _ rfl
      have fc4 : wr.cell? ⟨(ad.add (k * 8)).block, (ad.add (k * 8)).off + 4, none⟩ = some (.int .i64 a.v.n) := hcell 4 _ rfl
      have fc5 : wr.cell? ⟨(ad.add (k * 8)).block, (ad.add (k * 8)).off + 5, none⟩ = some (.string a.v.s) := hcell 5 _ rfl
      have fc6 : wr.cell? ⟨(ad.add (k * 8)).block, (ad.add (k * 8)).off + 6, none⟩ = some (.slice A3 a.v.l.length c3) := hcell 6 _ rfl
      have fc7 : wr.cell? ⟨(ad.add (k * 8)).block, (ad.add (k * 8)).off + 7, none⟩ = some (.slice A4 a.ar.length c4) := hcell 7 _ rfl
      clear hx1 hr1 hi1 hcell hea ham hg
      go_upto_region 25 with (fail)
      obtain ⟨W3, hW3⟩ : ∃ W3, W3 = wr.alloc (.cells #[.int .i64 a.k, .int .i64 a.op, .string a.nm, .int .i64 a.v.k, .int .i64 a.v.n, .string a.v.s, .slice A3 a.v.l.length c3, .slice A4 a.ar.length c4] 27 (0, 0)) := ⟨_, rfl⟩
      have hb3 : Below wr.heap.size wr W3 := hW3 ▸ (Below.refl _ wr).alloc (Nat.le_refl _) _
      have B3 : Blk W3 wr.heap.size 27 #[.int .i64 a.k, .int .i64 a.op, .string a.nm, .int .i64 a.v.k, .int .i64 a.v.n, .string a.v.s, .slice A3 a.v.l.length c3, .slice A4 a.ar.length c4] := hW3 ▸ Blk.new wr _ _
      have HO3 := Lib.hid (show W3.ownsRow W.heap.size 3 1 _ k (numV .i64 ks) from hW3 ▸ HO.out.alloc _)
      rw [← hW3]
      clear hW3 fc0 fc1 fc2 fc3 fc4 fc5 fc6 fc7 uc0 uc1 qc0 qc1 qc2 qc3 qc4 qc5 qc6 qc7
      have D0 := C0.below hb3 C0.lt
      have uc0 : W3.cell? ⟨w.heap.size, 0, none⟩ = some (.map (some m1)) := D0.cell 0
      have uc1 : W3.cell? ⟨w.heap.size, 1, none⟩ = some (.map (some m2)) := D0.cell 1
      have gc0 : W3.cell? ⟨wr.heap.size, 0, none⟩ = some (.int .i64 a.k) := B3.cell 0
      have gc1 : W3.cell? ⟨wr.heap.size, 1, none⟩ = some (.int .i64 a.op) := B3.cell 1
      have gc2 : W3.cell? ⟨wr.heap.size, 2, none⟩ = some (.string a.nm) := B3.cell 2
      have gc3 : W3.cell? ⟨wr.heap.size, 3, none⟩ = some (.int .i64 a.v.k) := B3.cell 3
      have gc4 : W3.cell? ⟨wr.heap.size, 4, none⟩ = some (.int .i64 a.v.n) := B3.cell 4
      have gc5 : W3.cell? ⟨wr.heap.size, 5, none⟩ = some (.string a.v.s) := B3.cell 5
      have gc6 : W3.cell? ⟨wr.heap.size, 6, none⟩ = some (.slice A3 a.v.l.length c3) := B3.cell 6
      have gc7 : W3.cell? ⟨wr.heap.size, 7, none⟩ = some (.slice A4 a.ar.length c4) := B3.cell 7
      have hwr3 : Below w.heap.size w W3 := hwr.trans (hb3.mono hwr.size)
      have hr3 : Below W.heap.size W W3 := hbr.trans (hb3.mono hsr)
      go_wp2_with fail
      refine (HI1.out W3 (HCI.out.keep (hb3.mono (Nat.le_trans HAT.out.2.2.2 hwr.size))) (HWW.out.keep hwr3 HAT.out.2.2.2) (HAT.out.2.1.below (hwr3.mono HAT.out.2.2.2)) (Nat.le_trans HAT.out.2.2.2 hwr3.size)).mono ?_
      rw [HGF.out]
      rintro en w4 ⟨rfl, hb4⟩
      have hwr4 := hwr3.trans (hb4.mono hwr3.size)
      have hr4 : Below W.heap.size W w4 := hr3.trans (hb4.mono hr3.size)
      have HO4 := Lib.hid (own_below HO3.out hb4)
      clear uc0 uc1 gc0 gc1 gc2 gc3 gc4 gc5 gc6 gc7 D0 B3 HI1
      by_cases h0 : g2 = 0
      rotate_left
      · have bg : (g2 != 0) = true := by simpa using h0
        have HK2 := Lib.hid (show e.kind cells loops at_ = (0, g2) by rw [HK.out, HD.out, HDD.out, if_pos h0, if_pos h0])
        clear h0
        go_wp2_with fail
        go_ret2
        exact ⟨by rw [HK2.out]; rfl, hwr4⟩
      · subst h0
        have HD2 := Lib.hid (show kindsL cells loops e.ar at_ [] = kindsL cells loops (e.ar.drop (k + 1)) at_ (ks ++ [g1]) by rw [HD.out, HDD.out, if_neg (by decide)])
        have hrow : ∀ g, Value.ownBlock (.slice A5 ks.length c5) = some g → W.heap.size ≤ g := fun g hg => (HO4.out.lt g hg).1
        have HROW := Lib.hid hrow
        clear hrow
        go_wp2_with (at_builtin; refine wpList_append_own _ rfl _ _ 22 rfl W.heap.size 3 i0 (.int .i64 0) 1 8 Tryz.underlying22 hi0 hz0 hz1 hz2 rfl (by decide) _ _ _ rfl (HO4.out.alloc _) ⟨w4.heap.size, 0, none⟩ 1 1 [.int .i64 g1] rfl rfl ?c1 ?c2 ?c3 ?c4 ?c5 ?_)
        case c1 => intro j u hj; cases j <;> simp_all [go_sem]
        case c2 => intro u hu; simp only [List.mem_singleton] at hu; subst hu; rfl
        case c3 => exact Nat.le_trans HLT.out HA.out
        case c4 => (have h := Nat.le_trans (Nat.succ_le_of_lt HLT.out) (Nat.le_trans HP.out.2.2 (arOf_le e.op)); omega)
        case c5 => (have h := hr4.size; simp; omega)
        intro v2 w5 hown5 hg5 _
        have hr5 : Below W.heap.size W w5 := (hr4.alloc (by have := hr4.size; omega) _).grown hg5 (by have := hr4.size; simp; omega) (fun g hg => by have := HROW.out g hg; omega)
        have HO5 := Lib.hid (show w5.ownsRow W.heap.size 3 1 v2 (k + 1) (numV .i64 (ks ++ [g1])) by rw [numV_snoc]; exact hown5)
        clear hown5 hg5
        go_wp2
        go_roundw
        case rel => exact ⟨k + 1, v2, ks ++ [g1], HLT.out, by go_num, rfl, HO5, HD2, hr5⟩
        case measure =>
          have := HLT.out
          simp [intOf]
          omega
    · have hke : k = e.ar.length := by omega
      have HKL := Lib.hid (show kindsL cells loops e.ar at_ [] = (0, ks) by rw [HD.out, List.drop_eq_nil_of_le (by omega), kindsL])
      have hle : ks.length = e.ar.length := by have := HKX.out; omega
      have HK2 := Lib.hid (show e.kind cells loops at_ = opT e.op ks by rw [HK.out, HKL.out]; exact if_neg (fun h => h rfl))
      have HOT := Lib.hid (opType_any e.op ks A5 c5 wr.heap.size wr HP.out.1.1 HP.out.1.2 (by rw [hle]; exact HP.out.2) (by rw [hle]; exact HA.out) (own_reads HO.out).1 (Nat.le_refl _))
      clear hke hle
      go_wp2_with fail
      refine HOT.out.mono ?_
      rintro en w9 ⟨rfl, hb9⟩
      go_wp2_with fail
      go_ret2
      exact ⟨by rw [HK2.out]; try rfl, hwr.trans (hb9.mono hwr.size)⟩
end Go.Proofs.YtpanbeoelbhhgaaGreatDoor
namespace Go.Proofs.YtpanbeoelbhhgaaGreatDoor
open Go.RowKit
attribute [local go_sem ↓] Go.wp_at_zero Go.wp_at_succ
theorem infoStr : (Tryz.prog.info? 9).map (fun i => (i.zero, i.size, i.bytes)) = some (some (.string ByteArray.empty), 1, 16) := by kernel_rfl
theorem cloneS (l : List ByteArray) (A : Option Addr) (c B : Nat) (w : World) (hx : StrsAt w B A l) (hl : l.length ≤ 1099511627776) :
    Calls Tryz.prog 42 #[.slice A l.length c] w fun e w' => ∃ v, e = .returned v ∧ w'.ownsRow w.heap.size 9 1 v l.length (strV l) ∧ Below w.heap.size w w' := by
  rcases Nat.eq_zero_or_pos l.length with h0 | h0
  · have e1 := List.eq_nil_of_length_eq_zero h0
    subst e1
    cases A with
    | none => exact (Tryz.slices_Clone_string_nil 0 c w).mono fun _ _ ⟨he, hw⟩ => ⟨_, he, World.ownsRow_nil _ _ _ _, hw ▸ Below.refl _ _⟩
    | some a => exact (Tryz.slices_Clone_string_zero a c w).mono fun _ _ ⟨v, he, hr, _, hb⟩ => ⟨v, he, hr, hb⟩
  · obtain ⟨b, o, rfl, -, hc⟩ := hx.plain h0
    refine (Tryz.slices_Clone_string b o l.length c l w (Nat.le_refl _) (by omega) (StrsAt.cells hc)).mono fun _ _ ⟨v, he, hr, _, hb⟩ => ⟨v, he, ?_, hb⟩
    rw [List.take_length] at hr
    exact hr
theorem own_cap {w : World} {B n size g cap m : Nat} {e : TypeId} {xs : List Value} (h : w.ownsRow B e size (.slice (some ⟨g, 0, none⟩) m cap) n xs) : n ≤ cap := by
  rcases h.2 with ⟨h, -⟩ | ⟨g', cap', cur, e0, -, -, h1, -⟩
  · cases h
  · injection e0 with _ _ e3
    omega
theorem strV_snoc (l : List ByteArray) (s : ByteArray) : strV (l ++ [s]) = strV l ++ [.string s] := by simp [strV]
theorem list_one {α : Type} : ∀ (l : List α) (_h : l.length = 1) (h0 : 0 < l.length), l = [l[0]]
  | [_a], _, _ => rfl
theorem add_zero_ad (ad : Addr) : ad.add 0 = ad := by unfold Addr.add; simp
theorem own_base {w : World} {B B' size n : Nat} {e : TypeId} {v : Value} {xs : List Value} (h : w.ownsRow B e size v n xs) (hB : B' ≤ B) : w.ownsRow B' e size v n xs := by
  refine ⟨h.1, h.2.imp id ?_⟩
  rintro ⟨g', cap, cur, e0, e1, e2⟩
  exact ⟨g', cap, cur, e0, Nat.le_trans hB e1, e2⟩
set_option maxHeartbeats 2000000 in
set_option maxRecDepth 100000 in
theorem typed_5 (e : Ex) (cells : List CellD) (loops : List NestD) (hk : e.k = 5) (kv1 kv2 : List (ByteArray × Value)) (m1 m2 B : Nat) (at_ : List ByteArray) (A : Option Addr) (c : Nat) (cs : List Value) (w : World) (hP : PartOk e) (hI : ∀ a ∈ e.ar, TySpec cells loops kv1 kv2 m1 m2 a) (hNL : ∀ d ∈ loops, d.loops.length ≤ 1048576) (hx : ExAt w B e cs) (hw : TyW w B m1 m2 kv1 kv2 cells loops) (ha : at_.length ≤ maxLen) (hat : StrsAt w B A at_) (hc : at_.length ≤ c) (hB : B ≤ w.heap.size) :
    Calls Tryz.prog 17 #[.agg #[.map (some m1), .map (some m2)], .agg cs.toArray, .slice A at_.length c] w fun en w' => en = .returned (.tuple #[.int .i64 (e.kind cells loops at_).1, .int .i64 (e.kind cells loops at_).2]) ∧ Below w.heap.size w w' := by
  have HXA := Lib.hid hx
  obtain ⟨hn, hs, hl, ha8, hx, hr, hi⟩ := hx
  rename_i A1 c1 A2 c2 cs
  have HK := Lib.hid (show e.kind cells loops at_ = (match nestK loops e.nm at_ with
      | none => (0, 5)
      | some at' => overL cells loops e.ar at' e.op) by rw [kind_eq, if_neg (by omega), if_neg (by omega), if_neg (by omega), if_pos hk]; rfl)
  have hk1 : (e.k == 1) = false := by rw [hk]; rfl
  have hk2 : (e.k == 2) = false := by rw [hk]; rfl
  have hk3 : (e.k == 3) = false := by rw [hk]; rfl
  have hk5 : (e.k == 5) = true := by rw [hk]; rfl
  have HNM := Lib.hid hn
  have HWW := Lib.hid hw
  have HAT := Lib.hid (And.intro ha (And.intro hat (And.intro hc hB)))
  have HN := Lib.hid (nestK_map hw.nn e.nm at_)
  have HP := Lib.hid (And.intro (hP.op5 hk) (hP.a5 hk))
  have HR := Lib.hid (And.intro hr hi)
  have HI := Lib.hid hI
  have HNL := Lib.hid hNL
  obtain ⟨i0, hi0, hz0, hz1, hz2⟩ := info_parts infoStr
  clear hx hr hi hw hat hB hk hI hP hNL
  show Calls Tryz.prog 17 #[.agg #[.map (some m1), .map (some m2)], .agg #[.int .i64 e.k, .int .i64 e.op, .string e.nm, .int .i64 e.v.k, .int .i64 e.v.n, .string e.v.s, .slice A1 e.v.l.length c1, .slice A2 e.ar.length c2], .slice A at_.length c] w _
  go_enter Tryz.func17, Tryz.ntmps17
  go_upto_region 1 with (fail)
  obtain ⟨W, hW⟩ : ∃ W, W = ((w.alloc (.cells #[.map (some m1), .map (some m2)] 57 (0, 0))).alloc (.cells #[.int .i64 e.k, .int .i64 e.op, .string e.nm, .int .i64 e.v.k, .int .i64 e.v.n, .string e.v.s, .slice A1 e.v.l.length c1, .slice A2 e.ar.length c2] 27 (0, 0))) := ⟨_, rfl⟩
  have hbw : Below w.heap.size w W := by rw [hW]; exact (((Below.refl _ w).alloc (Nat.le_refl _) _).alloc (by simp) _)
  have B0 : Blk W (w.heap.size) 57 #[.map (some m1), .map (some m2)] := by
    rw [hW]
    have := Blk.new w 57 #[.map (some m1), .map (some m2)]
    have := this.alloc (.cells #[.int .i64 e.k, .int .i64 e.op, .string e.nm, .int .i64 e.v.k, .int .i64 e.v.n, .string e.v.s, .slice A1 e.v.l.length c1, .slice A2 e.ar.length c2] 27 (0, 0))
    exact this
  have B1 : Blk W (w.heap.size + 1) 27 #[.int .i64 e.k, .int .i64 e.op, .string e.nm, .int .i64 e.v.k, .int .i64 e.v.n, .string e.v.s, .slice A1 e.v.l.length c1, .slice A2 e.ar.length c2] := by
    rw [hW]
    have := Blk.new (w.alloc (.cells #[.map (some m1), .map (some m2)] 57 (0, 0))) 27 #[.int .i64 e.k, .int .i64 e.op, .string e.nm, .int .i64 e.v.k, .int .i64 e.v.n, .string e.v.s, .slice A1 e.v.l.length c1, .slice A2 e.ar.length c2]
    rwa [World.size_alloc] at this
  have hsz : W.heap.size = w.heap.size + 2 := by rw [hW]; simp
  rw [← hW]
  clear hW hsz
  have ec0 : W.cell? ⟨w.heap.size + 1, 0, none⟩ = some (.int .i64 e.k) := B1.cell 0
  have ec1 : W.cell? ⟨w.heap.size + 1, 1, none⟩ = some (.int .i64 e.op) := B1.cell 1
  have ec2 : W.cell? ⟨w.heap.size + 1, 2, none⟩ = some (.string e.nm) := B1.cell 2
  have ec3 : W.cell? ⟨w.heap.size + 1, 3, none⟩ = some (.int .i64 e.v.k) := B1.cell 3
  have ec4 : W.cell? ⟨w.heap.size + 1, 4, none⟩ = some (.int .i64 e.v.n) := B1.cell 4
  have ec5 : W.cell? ⟨w.heap.size + 1, 5, none⟩ = some (.string e.v.s) := B1.cell 5
  have ec6 : W.cell? ⟨w.heap.size + 1, 6, none⟩ = some (.slice A1 e.v.l.length c1) := B1.cell 6
  have ec7 : W.cell? ⟨w.heap.size + 1, 7, none⟩ = some (.slice A2 e.ar.length c2) := B1.cell 7
  have HM2 := Lib.hid (HWW.out.n.below hbw HWW.out.n.lt)
  have wc1 : W.cell? ⟨w.heap.size, 1, none⟩ = some (.map (some m2)) := B0.cell 1
  rcases HN.out with ⟨hg, hf⟩ | ⟨d, ds, hg, hd, hdl, hf⟩
  · skip
    have hl0 : (Instr.lookup 55 (.map (some m2)) (.string e.nm) true).run Tryz.prog W = .ok (.tuple #[.agg #[.string ⟨#[]⟩, .slice none 0 0], .bool false]) W := by
      have h := HM2.out.look Tryz.underlying55 (zeroNest W) HNM.out
      rw [hg] at h
      exact h
    have HF := Lib.hid hf
    clear hf hg
    go_upto_region 15 with (fail)
    obtain ⟨W2, hW2⟩ : ∃ W2, W2 = W.alloc (.cells #[.string ⟨#[]⟩, .slice none 0 0] 97 (0, 0)) := ⟨_, rfl⟩
    have hb2 : Below W.heap.size W W2 := hW2 ▸ (Below.refl _ W).alloc (Nat.le_refl _) _
    have hbw2 := hbw.trans (hb2.mono hbw.size)
    have B2 : Blk W2 W.heap.size 97 #[.string ⟨#[]⟩, .slice none 0 0] := hW2 ▸ Blk.new W _ _
    rw [← hW2]
    clear hW2 hl0
    have HK2 := Lib.hid (show e.kind cells loops at_ = (0, 5) by rw [HK.out, HF.out])
    clear hb2 B2 B0 B1
    go_wp2_with (fail)
    go_ret2
    exact ⟨by rw [HK2.out]; rfl, hbw2⟩
  · obtain ⟨⟨A', c', rfl, hdx, hdc⟩, hd1, hd2, hd3⟩ := hd
    have HDX := Lib.hid (And.intro hdx (And.intro hd2 (HNL.out d hdl)))
    clear hdx hd2 hd3 hdl
    have hl0 : (Instr.lookup 55 (.map (some m2)) (.string e.nm) true).run Tryz.prog W = .ok (.tuple #[.agg #[.string d.nm, .slice A' d.loops.length c'], .bool true]) W := by
      have h := HM2.out.look Tryz.underlying55 (zeroNest W) HNM.out
      rw [hg] at h
      exact h
    have HF := Lib.hid hf
    clear hf hg
    go_upto_region 15 with (fail)
    obtain ⟨W2, hW2⟩ : ∃ W2, W2 = W.alloc (.cells #[.string d.nm, .slice A' d.loops.length c'] 97 (0, 0)) := ⟨_, rfl⟩
    have hb2 : Below W.heap.size W W2 := hW2 ▸ (Below.refl _ W).alloc (Nat.le_refl _) _
    have hbw2 := hbw.trans (hb2.mono hbw.size)
    have B2 : Blk W2 W.heap.size 97 #[.string d.nm, .slice A' d.loops.length c'] := hW2 ▸ Blk.new W _ _
    rw [← hW2]
    clear hW2 hl0
    obtain ⟨q, hq⟩ : ∃ q, beginsB d.loops at_ = q := ⟨_, rfl⟩
    have HQ := Lib.hid hq
    have HBG := Lib.hid (show Calls Tryz.prog 40 #[.slice A' d.loops.length c', .slice A at_.length c] W2 fun e w'' => e = .returned (.bool q) ∧ Below W2.heap.size W2 w'' by
      have h := beginning_any d.loops at_ A' c' A c B W2 HDX.out.2.1 HAT.out.1 (HDX.out.1.below (hbw2.mono HAT.out.2.2.2)) (HAT.out.2.1.below (hbw2.mono HAT.out.2.2.2)) HAT.out.2.2.1 (Nat.le_trans HAT.out.2.2.2 hbw2.size)
      rw [hq] at h
      exact h)
    have B0 := B0.below hb2 B0.lt
    have B1 := B1.below hb2 B1.lt
    clear hq hb2 ec0 ec1 ec2 ec3 ec4 ec5 ec6 ec7 wc1
    have ec0 : W2.cell? ⟨w.heap.size + 1, 0, none⟩ = some (.int .i64 e.k) := B1.cell 0
    have ec1 : W2.cell? ⟨w.heap.size + 1, 1, none⟩ = some (.int .i64 e.op) := B1.cell 1
    have ec2 : W2.cell? ⟨w.heap.size + 1, 2, none⟩ = some (.string e.nm) := B1.cell 2
    have ec3 : W2.cell? ⟨w.heap.size + 1, 3, none⟩ = some (.int .i64 e.v.k) := B1.cell 3
    have ec4 : W2.cell? ⟨w.heap.size + 1, 4, none⟩ = some (.int .i64 e.v.n) := B1.cell 4
    have ec5 : W2.cell? ⟨w.heap.size + 1, 5, none⟩ = some (.string e.v.s) := B1.cell 5
    have ec6 : W2.cell? ⟨w.heap.size + 1, 6, none⟩ = some (.slice A1 e.v.l.length c1) := B1.cell 6
    have ec7 : W2.cell? ⟨w.heap.size + 1, 7, none⟩ = some (.slice A2 e.ar.length c2) := B1.cell 7
    have vc0 : W2.cell? ⟨W.heap.size, 0, none⟩ = some (.string d.nm) := B2.cell 0
    have vc1 : W2.cell? ⟨W.heap.size, 1, none⟩ = some (.slice A' d.loops.length c') := B2.cell 1
    go_wp2_with fail
    refine HBG.out.mono ?_
    rintro en W9 ⟨rfl, hb9⟩
    have hbw9 := hbw2.trans (hb9.mono hbw2.size)
    have B0 := B0.below hb9 B0.lt
    have B1 := B1.below hb9 B1.lt
    have B2 := B2.below hb9 B2.lt
    clear hb9 vc0 vc1 ec0 ec1 ec2 ec3 ec4 ec5 ec6 ec7
    cases q
    · have HK2 := Lib.hid (show e.kind cells loops at_ = (0, 5) by rw [HK.out, HF.out, HQ.out]; rfl)
      clear B0 B1 B2
      go_wp2_with fail
      go_ret2
      exact ⟨by rw [HK2.out]; rfl, hbw9⟩
    · have hB9 := hbw9.mono HAT.out.2.2.2
      have h1 : 0 < e.ar.length := by have := HP.out.2; omega
      obtain ⟨ad, ci, rfl, hb, hci, hcell⟩ := ExAt.arg (HR.out.1.below hB9) (fun i h => (HR.out.2 i h).keep hB9) h1
      obtain ⟨a, hea⟩ : ∃ a, e.ar[0] = a := ⟨_, rfl⟩
      have ham : a ∈ e.ar := by rw [← hea]; exact List.getElem_mem h1
      have hear : e.ar = [a] := by have h := list_one e.ar HP.out.2 h1; rwa [hea] at h
      have HK2 := Lib.hid (show e.kind cells loops at_ = if (a.kind cells loops (d.loops ++ [d.nm])).2 ≠ 0 then (0, (a.kind cells loops (d.loops ++ [d.nm])).2) else overT e.op (a.kind cells loops (d.loops ++ [d.nm])).1 by
        rw [HK.out, HF.out, HQ.out]
        show overL cells loops e.ar (d.loops ++ [d.nm]) e.op = _
        rw [hear, overL])
      obtain ⟨g, hg⟩ : ∃ g, a.kind cells loops (d.loops ++ [d.nm]) = g := ⟨_, rfl⟩
      obtain ⟨g1, g2⟩ := g
      have HGF := Lib.hid hg
      rw [hea] at hci
      have HCIK := hci
      obtain ⟨hn1, hs1, hl1, ha1, hx1, hr1, hi1⟩ := hci
      rename_i A3 c3 A4 c4 cs1
      have hcell' : ∀ j u, (exCells a A3 c3 A4 c4)[j]? = some u → W9.cell? (ad.add j) = some u := fun j u hu => by have h := hcell j u hu; rwa [Nat.zero_mul, add_zero_ad] at h
      have fc0 : W9.cell? (ad) = some (.int .i64 a.k) := hcell' 0 _ rfl
      have fc1 : W9.cell? ⟨(ad).block, (ad).off + 1, none⟩ = some (.int .i64 a.op) := hcell' 1 _ rfl
      have fc2 : W9.cell? ⟨(ad).block, (ad).off + 2, none⟩ = some (.string a.nm) := hcell' 2 _ rfl
      have fc3 : W9.cell? ⟨(ad).block, (ad).off + 3, none⟩ = some (.int .i64 a.v.k) := hcell' 3 _ rfl
      have fc4 : W9.cell? ⟨(ad).block, (ad).off + 4, none⟩ = some (.int .i64 a.v.n) := hcell' 4 _ rfl
      have fc5 : W9.cell? ⟨(ad).block, (ad).off + 5, none⟩ = some (.string a.v.s) := hcell' 5 _ rfl
      have fc6 : W9.cell? ⟨(ad).block, (ad).off + 6, none⟩ = some (.slice A3 a.v.l.length c3) := hcell' 6 _ rfl
      have fc7 : W9.cell? ⟨(ad).block, (ad).off + 7, none⟩ = some (.slice A4 a.ar.length c4) := hcell' 7 _ rfl
      clear hx1 hr1 hi1 hcell hea hg hear
      clear h1 hcell' HR
      have HCI := Lib.hid HCIK
      have wc0 : W9.cell? ⟨w.heap.size, 0, none⟩ = some (.map (some m1)) := B0.cell 0
      have wc1 : W9.cell? ⟨w.heap.size, 1, none⟩ = some (.map (some m2)) := B0.cell 1
      have ec7 : W9.cell? ⟨w.heap.size + 1, 7, none⟩ = some (.slice (some ad) 1 c2) := by have h := B1.cell 7; rwa [show (#[.int .i64 e.k, .int .i64 e.op, .string e.nm, .int .i64 e.v.k, .int .i64 e.v.n, .string e.v.s, .slice A1 e.v.l.length c1, .slice (some ad) e.ar.length c2] : Array Value)[7]? = some (.slice (some ad) 1 c2) from by rw [HP.out.2]; rfl] at h
      have vc0 : W9.cell? ⟨W.heap.size, 0, none⟩ = some (.string d.nm) := B2.cell 0
      have vc1 : W9.cell? ⟨W.heap.size, 1, none⟩ = some (.slice A' d.loops.length c') := B2.cell 1
      have HS := Lib.hid (show ∀ w', Below W9.heap.size W9 w' → w'.cell? ⟨w.heap.size, 0, none⟩ = some (.map (some m1)) ∧ w'.cell? ⟨w.heap.size, 1, none⟩ = some (.map (some m2)) ∧ w'.cell? ⟨w.heap.size + 1, 7, none⟩ = some (.slice (some ad) 1 c2) ∧ w'.cell? ⟨W.heap.size, 0, none⟩ = some (.string d.nm) ∧ w'.cell? ⟨W.heap.size, 1, none⟩ = some (.slice A' d.loops.length c') ∧ w'.cell? ad = some (.int .i64 a.k) ∧ w'.cell? ⟨ad.block, ad.off + 1, none⟩ = some (.int .i64 a.op) ∧ w'.cell? ⟨ad.block, ad.off + 2, none⟩ = some (.string a.nm) ∧ w'.cell? ⟨ad.block, ad.off + 3, none⟩ = some (.int .i64 a.v.k) ∧ w'.cell? ⟨ad.block, ad.off + 4, none⟩ = some (.int .i64 a.v.n) ∧ w'.cell? ⟨ad.block, ad.off + 5, none⟩ = some (.string a.v.s) ∧ w'.cell? ⟨ad.block, ad.off + 6, none⟩ = some (.slice A3 a.v.l.length c3) ∧ w'.cell? ⟨ad.block, ad.off + 7, none⟩ = some (.slice A4 a.ar.length c4) ∧ Below W9.heap.size W9 w' from fun w' hb => ⟨Below.cell_of hb wc0, Below.cell_of hb wc1, Below.cell_of hb ec7, Below.cell_of hb vc0, Below.cell_of hb vc1, Below.cell_of hb fc0, Below.cell_of hb fc1, Below.cell_of hb fc2, Below.cell_of hb fc3, Below.cell_of hb fc4, Below.cell_of hb fc5, Below.cell_of hb fc6, Below.cell_of hb fc7, hb⟩)
      have hq0 : Below W9.heap.size W9 W9 := Below.refl _ _
      have hq0a : ∀ o, Below W9.heap.size W9 (W9.alloc o).drew := fun o => (hq0.alloc (Nat.le_refl _) _).drew
      have hs9 : B ≤ W9.heap.size := Nat.le_trans HAT.out.2.2.2 hbw9.size
      have HI1 := Lib.hid (HI.out a ham)
      have K1 := Lib.hid (show ∀ w', Below W9.heap.size W9 w' → Calls Tryz.prog 42 #[.slice A' d.loops.length c'] w' fun en w'' => ∃ v, en = .returned v ∧ w''.ownsRow W9.heap.size 9 1 v d.loops.length (strV d.loops) ∧ Below W9.heap.size W9 w'' ∧ Below w'.heap.size w' w'' from fun w' hb =>
        (cloneS d.loops A' c' B w' (HDX.out.1.below (hB9.trans (hb.mono hs9))) (by have := HDX.out.2.2; omega)).mono fun _ _ ⟨v, he, ho, hk⟩ => ⟨v, he, own_base ho hb.size, hb.trans (hk.mono hb.size), hk⟩)
      have K3 := Lib.hid (show ∀ w' g cap, Below W9.heap.size W9 w' → w'.ownsRow W9.heap.size 9 1 (.slice (some ⟨g, 0, none⟩) (d.loops.length + 1) cap) (d.loops.length + 1) (strV d.loops ++ [.string d.nm]) → Calls Tryz.prog 17 #[.agg #[.map (some m1), .map (some m2)], .agg #[.int .i64 a.k, .int .i64 a.op, .string a.nm, .int .i64 a.v.k, .int .i64 a.v.n, .string a.v.s, .slice A3 a.v.l.length c3, .slice A4 a.ar.length c4], .slice (some ⟨g, 0, none⟩) (d.loops.length + 1 : Nat) cap] w' fun en w'' => en = .returned (.tuple #[.int .i64 g1, .int .i64 g2]) ∧ Below W9.heap.size W9 w'' from by
        intro w' g cap hb ho
        have hB' := hB9.trans (hb.mono hs9)
        have hww := hbw9.trans (hb.mono hbw9.size)
        have hlen : (d.loops ++ [d.nm]).length = d.loops.length + 1 := by simp
        have h := HI1.out w'.heap.size (d.loops ++ [d.nm]) (some ⟨g, 0, none⟩) cap _ w' ((HCI.out.keep (hb.mono hs9)).up (Nat.le_trans hs9 hb.size)) ((HWW.out.keep hww HAT.out.2.2.2).up (Nat.le_trans hs9 hb.size)) (by rw [hlen]; have := HDX.out.2.2; unfold maxLen; omega) (by rw [StrsAt, strV_snoc, hlen]; exact Reads.of_own ho) (by rw [hlen]; exact own_cap ho) (Nat.le_refl _)
        rw [hlen, HGF.out] at h
        exact h.mono fun _ _ ⟨he, hk⟩ => ⟨he, hb.trans (hk.mono hb.size)⟩)
      clear ham
      go_upto_region 17 with (fail)
      go_region_held3 (fun w' => w'.cell? ⟨w.heap.size, 0, none⟩ = some (.map (some m1)) ∧ w'.cell? ⟨w.heap.size, 1, none⟩ = some (.map (some m2)) ∧ w'.cell? ⟨w.heap.size + 1, 7, none⟩ = some (.slice (some ad) 1 c2) ∧ w'.cell? ⟨W.heap.size, 0, none⟩ = some (.string d.nm) ∧ w'.cell? ⟨W.heap.size, 1, none⟩ = some (.slice A' d.loops.length c') ∧ w'.cell? ad = some (.int .i64 a.k) ∧ w'.cell? ⟨ad.block, ad.off + 1, none⟩ = some (.int .i64 a.op) ∧ w'.cell? ⟨ad.block, ad.off + 2, none⟩ = some (.string a.nm) ∧ w'.cell? ⟨ad.block, ad.off + 3, none⟩ = some (.int .i64 a.v.k) ∧ w'.cell? ⟨ad.block, ad.off + 4, none⟩ = some (.int .i64 a.v.n) ∧ w'.cell? ⟨ad.block, ad.off + 5, none⟩ = some (.string a.v.s) ∧ w'.cell? ⟨ad.block, ad.off + 6, none⟩ = some (.slice A3 a.v.l.length c3) ∧ w'.cell? ⟨ad.block, ad.off + 7, none⟩ = some (.slice A4 a.ar.length c4) ∧ Below W9.heap.size W9 w')
        (first | exact HS.out _ hq0 | exact HS.out _ hq0.drew | exact HS.out _ hq1 | exact HS.out _ hq2 | exact HS.out _ hq3 | exact HS.out _ (hq1.alloc (Nat.le_trans hq0.size hq1.size) _) | exact HS.out _ (hq0a _))
        (first
          | (go_at_call 42; (with_reducible refine (K1.out _ hq0.drew).mono ?_); rintro e1 w1 ⟨v, rfl, ho1, hq1, hk1'⟩)
          | (go_at_call 42; (with_reducible refine (K1.out _ (hq0a _)).mono ?_); rintro e1 w1 ⟨v, rfl, ho1, hq1, hk1'⟩; have hzz := Below.cell_of (a := ⟨W9.heap.size, 0, none⟩) (v := .string d.nm) hk1' (by simp [go_sem]))
          | (refine step_append_lies _ rfl _ _ 34 rfl W9.heap.size 9 i0 (.string ByteArray.empty) 1 16 Tryz.underlying34 hi0 hz0 hz1 hz2 rfl (by decide) v d.loops.length (strV d.loops) rfl (ho1.alloc _) ⟨w1.heap.size, 0, none⟩ 1 1 [.string d.nm] rfl rfl (by intro j u hj; cases j <;> simp_all [go_sem]) (by intro u hu; simp only [List.mem_singleton] at hu; subst hu; rfl) (by decide) (by have := HDX.out.2.2; unfold maxLen; omega) (by have := HDX.out.2.2; omega) (by have := hq1.size; first | omega | (simp; omega)) _ rfl ?_; intro g cap w2 ho2 hgr _ _; have hq2 := (hq1.alloc (Nat.le_trans hq0.size hq1.size) _).grown hgr (by have := hq1.size; simp; omega) (fun g hg => (ho1.lt g hg).1))
          | (refine step_append_lies _ rfl _ _ 34 rfl W9.heap.size 9 i0 (.string ByteArray.empty) 1 16 Tryz.underlying34 hi0 hz0 hz1 hz2 rfl (by decide) v d.loops.length (strV d.loops) rfl ho1 ⟨W9.heap.size, 0, none⟩ 1 1 [.string d.nm] rfl rfl (by intro j u hj; cases j with | zero => (have hu : u = .string d.nm := by simpa using hj.symm); subst hu; exact hzz | succ j => simp at hj) (by intro u hu; simp only [List.mem_singleton] at hu; subst hu; rfl) (by decide) (by have := HDX.out.2.2; unfold maxLen; omega) (by have := HDX.out.2.2; omega) (by have := hq1.size; first | omega | (simp; omega)) _ rfl ?_; intro g cap w2 ho2 hgr _ _; have hq2 := hq1.grown hgr hq1.size (fun g hg => (ho1.lt g hg).1))
          | (go_at_call 17; (with_reducible refine (K3.out _ _ _ hq2 ho2).mono ?_); rintro e3 w3 ⟨rfl, hq3⟩))
      all_goals
        have hbwz := hbw9.trans (hq3.mono hbw9.size)
        by_cases h0 : g2 = 0
        rotate_left
        · have bg : (g2 != 0) = true := by simpa using h0
          have HK3 := Lib.hid (show e.kind cells loops at_ = (0, g2) by rw [HK2.out, HGF.out, if_pos h0])
          clear h0 HS HK HK2
          go_wp2_with fail
          go_ret2
          exact ⟨by rw [HK3.out]; rfl, hbwz⟩
        · subst h0
          have HK3 := Lib.hid (show e.kind cells loops at_ = overT e.op g1 by rw [HK2.out, HGF.out]; exact if_neg (fun h => h rfl))
          have hec1 : w3.cell? ⟨w.heap.size + 1, 1, none⟩ = some (.int .i64 e.op) := Below.cell_of hq3 (B1.cell 1)
          clear HS HK HK2
          go_wp2_with fail
          refine (overType_any e.op g1 w3 HP.out.1.1 HP.out.1.2).mono ?_
          rintro en w4 ⟨rfl, rfl⟩
          go_wp2_with fail
          go_ret2
          exact ⟨by rw [HK3.out]; try rfl, hbwz⟩
end Go.Proofs.YtpanbeoelbhhgaaGreatDoor
namespace Go.Proofs.YtpanbeoelbhhgaaGreatDoor
open Go.RowKit
attribute [local go_sem ↓] Go.wp_at_zero Go.wp_at_succ
theorem typed_any (cells : List CellD) (loops : List NestD) (kv1 kv2 : List (ByteArray × Value)) (m1 m2 : Nat) (hNL : ∀ d ∈ loops, d.loops.length ≤ 1048576) (e : Ex) : e.fault = 0 → TySpec cells loops kv1 kv2 m1 m2 e := by
  induction e using Ex.ind with
  | h e ih =>
    intro hf B at_ A c cs w hx hw ha hat hc hB
    have P := partOk (fault_part hf)
    have hI := fun a h => ih a h (fault_arg hf a h)
    have hk := P.k
    obtain hk | hk | hk | hk | hk : e.k = 1 ∨ e.k = 2 ∨ e.k = 3 ∨ e.k = 4 ∨ e.k = 5 := by omega
    · exact typed_1 e cells loops hk kv1 kv2 m1 m2 B at_ A c cs w hx hw ha hat hc hB
    · exact typed_2 e cells loops hk kv1 kv2 m1 m2 B at_ A c cs w hx hw ha hat hc hB
    · exact typed_3 e cells loops hk kv1 kv2 m1 m2 B at_ A c cs w hx hw ha hat hc hB
    · exact typed_4 e cells loops hk kv1 kv2 m1 m2 B at_ A c cs w P hI hx hw ha hat hc hB
    · exact typed_5 e cells loops hk kv1 kv2 m1 m2 B at_ A c cs w P hI hNL hx hw ha hat hc hB
end Go.Proofs.YtpanbeoelbhhgaaGreatDoor
namespace Go.Proofs.YtpanbeoelbhhgaaGreatDoor
open Go.RowKit
attribute [local go_sem ↓] Go.wp_at_zero Go.wp_at_succ
/-- what a right world is -/
theorem firstF_ok {α : Type} {f : List α → α → Int} : ∀ {l prev : List α}, firstF f prev l = 0 → ∀ i (h : i < l.length), f (prev ++ l.take i) l[i] = 0
  | a :: r, prev, h, i, hi => by
    rw [firstF] at h
    by_cases h0 : f prev a = 0
    · rw [if_neg (by rw [h0]; decide)] at h
      cases i with
      | zero => simpa using h0
      | succ i =>
        have := firstF_ok h i (by simpa using hi)
        simpa using this
    · rw [if_pos h0] at h; exact absurd h h0
theorem pair_of_prev {α : Type} {g : α → ByteArray} : ∀ {l : List α}, (∀ i (h : i < l.length), ∀ d ∈ l.take i, g d ≠ g l[i]) → l.Pairwise (fun a b => g a ≠ g b)
  | l, h => by
    rw [List.pairwise_iff_getElem]
    intro i j hi hj hij
    exact h j hj l[i] (by rw [List.mem_take_iff_getElem]; exact ⟨i, by omega, rfl⟩)
theorem wok_of {cells : List CellD} {loops : List NestD} (h : worldF cells loops = 0) : WOk cells loops := by
  unfold worldF at h
  by_cases c1 : firstF cellFault [] cells = 0
  · rw [if_neg (by rw [c1]; decide)] at h
    by_cases c2 : firstF nestFault [] loops = 0
    · refine ⟨fun c hc => ?_, pair_of_prev fun i hi d hd => ?_, pair_of_prev fun i hi d hd => ?_⟩
      · obtain ⟨i, hi, rfl⟩ := List.mem_iff_getElem.1 hc
        have := firstF_ok c1 i hi
        unfold cellFault at this
        split at this
        · exact absurd this (by decide)
        split at this
        · exact absurd this (by decide)
        split at this
        · exact absurd this (by decide)
        · rename_i hk
          exact outB_no (Bool.not_eq_true _ ▸ hk)
      · have := firstF_ok c1 i hi
        unfold cellFault at this
        split at this
        · exact absurd this (by decide)
        split at this
        · exact absurd this (by decide)
        · rename_i hk
          simp only [List.nil_append, List.any_eq_true, decide_eq_true_iff, not_exists, not_and] at hk
          exact hk d hd
      · have := firstF_ok c2 i hi
        unfold nestFault at this
        split at this
        · exact absurd this (by decide)
        split at this
        · exact absurd this (by decide)
        · rename_i hk
          simp only [List.nil_append, List.any_eq_true, decide_eq_true_iff, not_exists, not_and] at hk
          exact hk d hd
    · rw [if_pos c2] at h; exact absurd h c2
  · rw [if_pos c1] at h; exact absurd h c1
/-- TypeOf -/
def typeF (e : Ex) (cells : List CellD) (loops : List NestD) (at_ : List ByteArray) : Int × Int :=
  if checkE e ≠ 0 then (0, checkE e) else if worldF cells loops ≠ 0 then (0, worldF cells loops) else if nestedF loops at_ = false then (0, 9) else e.kind cells loops at_
theorem checkE_fault {e : Ex} (h : checkE e = 0) : e.fault = 0 := by
  unfold checkE at h
  split at h
  · exact absurd h (by decide)
  · exact h
set_option maxHeartbeats 2000000 in
set_option maxRecDepth 100000 in
theorem typeOf_any (e : Ex) (cells : List CellD) (loops : List NestD) (AC AN : Option Addr) (cc cn B : Nat) (at_ : List ByteArray) (A : Option Addr) (c : Nat) (cs : List Value) (w : World) (hx : ExAt w B e cs) (hC : CellsAt w B AC cells) (hN : NestsAt w B AN loops) (ha : at_.length ≤ maxLen) (hat : StrsAt w B A at_) (hc : at_.length ≤ c) (hB : B ≤ w.heap.size) (hp : e.parts ≤ 1000000) (hNL : ∀ d ∈ loops, d.loops.length ≤ 1048576) (hs : ∀ s ∈ at_, s.size ≤ maxLen) :
    Calls Tryz.prog 10 #[.agg cs.toArray, .slice AC cells.length cc, .slice AN loops.length cn, .slice A at_.length c] w fun en w' => en = .returned (.tuple #[.int .i64 (typeF e cells loops at_).1, .int .i64 (typeF e cells loops at_).2]) ∧ Below w.heap.size w w' := by
  have HX := Lib.hid hx
  have HCN := Lib.hid (And.intro hC hN)
  have HAT := Lib.hid (And.intro ha (And.intro hat (And.intro hc hB)))
  have HNL := Lib.hid hNL
  obtain ⟨hn, hs', hl, ha8, hx, hr, hi⟩ := hx
  rename_i A1 c1 A2 c2 cs
  have HS := Lib.hid hs
  clear hs hx hr hi hC hN hat hB hNL
  show Calls Tryz.prog 10 #[.agg #[.int .i64 e.k, .int .i64 e.op, .string e.nm, .int .i64 e.v.k, .int .i64 e.v.n, .string e.v.s, .slice A1 e.v.l.length c1, .slice A2 e.ar.length c2], .slice AC cells.length cc, .slice AN loops.length cn, .slice A at_.length c] w _
  go_enter Tryz.func10, Tryz.ntmps10
  go_upto_region 1 with (fail)
  obtain ⟨W, hW⟩ : ∃ W, W = (w.alloc (.cells #[.int .i64 e.k, .int .i64 e.op, .string e.nm, .int .i64 e.v.k, .int .i64 e.v.n, .string e.v.s, .slice A1 e.v.l.length c1, .slice A2 e.ar.length c2] 27 (0, 0))) := ⟨_, rfl⟩
  have hbw : Below w.heap.size w W := by rw [hW]; exact ((Below.refl _ w).alloc (Nat.le_refl _) _)
  have B0 : Blk W (w.heap.size) 27 #[.int .i64 e.k, .int .i64 e.op, .string e.nm, .int .i64 e.v.k, .int .i64 e.v.n, .string e.v.s, .slice A1 e.v.l.length c1, .slice A2 e.ar.length c2] := by
    rw [hW]
    have := Blk.new w 27 #[.int .i64 e.k, .int .i64 e.op, .string e.nm, .int .i64 e.v.k, .int .i64 e.v.n, .string e.v.s, .slice A1 e.v.l.length c1, .slice A2 e.ar.length c2]
    exact this
  have hsz : W.heap.size = w.heap.size + 1 := by rw [hW]; simp
  rw [← hW]
  clear hW hsz
  have ec0 : W.cell? ⟨w.heap.size, 0, none⟩ = some (.int .i64 e.k) := B0.cell 0
  have ec1 : W.cell? ⟨w.heap.size, 1, none⟩ = some (.int .i64 e.op) := B0.cell 1
  have ec2 : W.cell? ⟨w.heap.size, 2, none⟩ = some (.string e.nm) := B0.cell 2
  have ec3 : W.cell? ⟨w.heap.size, 3, none⟩ = some (.int .i64 e.v.k) := B0.cell 3
  have ec4 : W.cell? ⟨w.heap.size, 4, none⟩ = some (.int .i64 e.v.n) := B0.cell 4
  have ec5 : W.cell? ⟨w.heap.size, 5, none⟩ = some (.string e.v.s) := B0.cell 5
  have ec6 : W.cell? ⟨w.heap.size, 6, none⟩ = some (.slice A1 e.v.l.length c1) := B0.cell 6
  have ec7 : W.cell? ⟨w.heap.size, 7, none⟩ = some (.slice A2 e.ar.length c2) := B0.cell 7
  go_wp2_with fail
  obtain ⟨f1, hf1⟩ : ∃ f, checkE e = f := ⟨_, rfl⟩
  have HF1 := Lib.hid hf1
  refine (CheckExpr_any e B _ W (HX.out.keep (hbw.mono HAT.out.2.2.2)) (Nat.le_trans HAT.out.2.2.2 hbw.size) (by omega)).mono ?_
  rw [hf1]
  rintro en W1 ⟨rfl, hb1⟩
  have hbw1 := hbw.trans (hb1.mono hbw.size)
  have B0 := B0.below hb1 B0.lt
  clear ec0 ec1 ec2 ec3 ec4 ec5 ec6 ec7 hb1 hf1
  by_cases h0 : f1 = 0
  rotate_left
  · have bg : (f1 != 0) = true := by simpa using h0
    have HK := Lib.hid (show typeF e cells loops at_ = (0, f1) by unfold typeF; rw [HF1.out, if_pos h0])
    clear h0
    go_wp2_with fail
    go_ret2
    exact ⟨by rw [HK.out]; try rfl, hbw1⟩
  subst h0
  have hsB := Nat.le_trans HAT.out.2.2.2 hbw1.size
  obtain ⟨f2, hf2⟩ : ∃ f, worldF cells loops = f := ⟨_, rfl⟩
  have HF2 := Lib.hid hf2
  have hb1B := hbw1.mono HAT.out.2.2.2
  clear hf2
  go_upto_region 4 with (fail)
  have HWO := Lib.hid (worldOf_any cells loops AC cc AN cn B W1 (HCN.out.1.keep hb1B) (HCN.out.2.keep hb1B) hsB)
  go_wp2_with fail
  refine HWO.out.mono ?_
  rintro en W2 ⟨⟨f2', rfl, hf2', hmap⟩, hb2⟩
  rw [HF2.out] at hf2'
  subst hf2'
  have HMAP := Lib.hid hmap
  have hbw2 := hbw1.trans (hb2.mono hbw1.size)
  have B0 := B0.below hb2 B0.lt
  clear hmap hb2 HWO
  by_cases h0 : f2' = 0
  rotate_left
  · have bg : (f2' != 0) = true := by simpa using h0
    have HK := Lib.hid (show typeF e cells loops at_ = (0, f2') by unfold typeF; rw [HF1.out, HF2.out, if_neg (by decide), if_pos h0])
    clear h0
    go_wp2_with fail
    go_ret2
    exact ⟨by rw [HK.out]; try rfl, hbw2.alloc hbw2.size _⟩
  subst h0
  obtain ⟨kv1, kv2, hm1, hm2, hkc, hkn⟩ := HMAP.out rfl
  have HTW := Lib.hid (show TyW W2 B (W1.heap.size + 1) (W1.heap.size + 1 + 1) kv1 kv2 cells loops from ⟨hm1, hkc, hm2, hkn⟩)
  clear hm1 hm2 hkc hkn HMAP
  obtain ⟨q, hq⟩ : ∃ q, nestedF loops at_ = q := ⟨_, rfl⟩
  have HQ := Lib.hid hq
  obtain ⟨W3, hW3⟩ : ∃ W3, W3 = W2.alloc (.cells #[.map (some (W1.heap.size + 1)), .map (some (W1.heap.size + 1 + 1))] 57 (0, 0)) := ⟨_, rfl⟩
  have hb3 : Below W2.heap.size W2 W3 := hW3 ▸ (Below.refl _ W2).alloc (Nat.le_refl _) _
  have B3 : Blk W3 W2.heap.size 57 #[.map (some (W1.heap.size + 1)), .map (some (W1.heap.size + 1 + 1))] := hW3 ▸ Blk.new W2 _ _
  have hbw3 := hbw2.trans (hb3.mono hbw2.size)
  have B0 := B0.below hb3 B0.lt
  have hs2 := Nat.le_trans HAT.out.2.2.2 hbw2.size
  have hs3 := Nat.le_trans HAT.out.2.2.2 hbw3.size
  have HTW := Lib.hid (HTW.out.keep hb3 hs2)
  have HNE := Lib.hid (nested_any at_ A c (W1.heap.size + 1) (W1.heap.size + 1 + 1) B kv2 loops W3 HAT.out.1 HS.out (HAT.out.2.1.below (hbw3.mono HAT.out.2.2.2)) HAT.out.2.2.1 hs3 HTW.out.n HTW.out.nn)
  rw [hq] at HNE
  clear hq
  go_wp2_with fail
  rw [← hW3]
  clear hW3 hb3
  refine HNE.out.mono ?_
  rintro en W4 ⟨rfl, hb4⟩
  have hbw4 := hbw3.trans (hb4.mono hbw3.size)
  have hs4 := Nat.le_trans HAT.out.2.2.2 hbw4.size
  have HTW := Lib.hid (HTW.out.keep hb4 hs3)
  have B0 := B0.below hb4 B0.lt
  have B3 := B3.below hb4 B3.lt
  clear HNE hb4
  cases q
  · have HK := Lib.hid (show typeF e cells loops at_ = (0, 9) by unfold typeF; rw [HF1.out, HF2.out, if_neg (by decide), if_neg (by decide), if_pos HQ.out])
    go_wp2_with fail
    go_ret2
    exact ⟨by rw [HK.out]; try rfl, hbw4⟩
  · have HK := Lib.hid (show typeF e cells loops at_ = e.kind cells loops at_ by unfold typeF; rw [HF1.out, HF2.out, if_neg (by decide), if_neg (by decide), if_neg (by rw [HQ.out]; decide)])
    have HTY := Lib.hid (typed_any cells loops kv1 kv2 (W1.heap.size + 1) (W1.heap.size + 1 + 1) HNL.out e (checkE_fault HF1.out) B at_ A c _ W4 (HX.out.keep (hbw4.mono HAT.out.2.2.2)) HTW.out HAT.out.1 (HAT.out.2.1.below (hbw4.mono HAT.out.2.2.2)) HAT.out.2.2.1 hs4)
    have ec0 : W4.cell? ⟨w.heap.size, 0, none⟩ = some (.int .i64 e.k) := B0.cell 0
    have ec1 : W4.cell? ⟨w.heap.size, 1, none⟩ = some (.int .i64 e.op) := B0.cell 1
    have ec2 : W4.cell? ⟨w.heap.size, 2, none⟩ = some (.string e.nm) := B0.cell 2
    have ec3 : W4.cell? ⟨w.heap.size, 3, none⟩ = some (.int .i64 e.v.k) := B0.cell 3
    have ec4 : W4.cell? ⟨w.heap.size, 4, none⟩ = some (.int .i64 e.v.n) := B0.cell 4
    have ec5 : W4.cell? ⟨w.heap.size, 5, none⟩ = some (.string e.v.s) := B0.cell 5
    have ec6 : W4.cell? ⟨w.heap.size, 6, none⟩ = some (.slice A1 e.v.l.length c1) := B0.cell 6
    have ec7 : W4.cell? ⟨w.heap.size, 7, none⟩ = some (.slice A2 e.ar.length c2) := B0.cell 7
    have uc0 : W4.cell? ⟨W2.heap.size, 0, none⟩ = some (.map (some (W1.heap.size + 1))) := B3.cell 0
    have uc1 : W4.cell? ⟨W2.heap.size, 1, none⟩ = some (.map (some (W1.heap.size + 1 + 1))) := B3.cell 1
    clear B0 B3
    go_wp2_with fail
    refine HTY.out.mono ?_
    rintro en W5 ⟨rfl, hb5⟩
    clear ec0 ec1 ec2 ec3 ec4 ec5 ec6 ec7 uc0 uc1
    go_wp2_with fail
    go_ret2
    exact ⟨by rw [HK.out]; try rfl, hbw4.trans (hb5.mono hbw4.size)⟩
end Go.Proofs.YtpanbeoelbhhgaaGreatDoor
namespace Go.Proofs.YtpanbeoelbhhgaaGreatDoor
open Go.RowKit
theorem ordI_range (a b : Int) : ordI a b = -1 ∨ ordI a b = 0 ∨ ordI a b = 1 := by unfold ordI; split <;> (try split) <;> simp
theorem ordI_anti (a b : Int) : ordI a b = -ordI b a := by unfold ordI; split <;> split <;> (try split) <;> omega
theorem ordI_self (a : Int) : ordI a a = 0 := by unfold ordI; simp
theorem ordI_of_lt {a b : Int} (h : a < b) : ordI a b = -1 := by unfold ordI; rw [if_pos h]
theorem cmpL_range : ∀ a b : List Int, cmpL a b = -1 ∨ cmpL a b = 0 ∨ cmpL a b = 1
  | [], [] => by simp [cmpL]
  | [], _ :: _ => by simp [cmpL]
  | _ :: _, [] => by simp [cmpL]
  | a :: l, b :: r => by
    unfold cmpL
    split
    · exact cmpL_range l r
    · exact ordI_range a b
def byteI (l : List UInt8) : List Int := l.map fun c => (c.toNat : Int)
theorem cmpB_eq : ∀ a b : List UInt8, Lib.compareBytes a b = cmpL (byteI a) (byteI b)
  | [], [] => rfl
  | [], _ :: _ => rfl
  | _ :: _, [] => rfl
  | a :: l, b :: r => by
    unfold Lib.compareBytes
    simp only [byteI, List.map_cons, cmpL]
    have ih := cmpB_eq l r
    simp only [byteI] at ih
    by_cases h : a < b
    · have h' : (a.toNat : Int) < b.toNat := by have := UInt8.lt_iff_toNat_lt.1 h; omega
      rw [if_pos h, ordI_of_lt h']
      simp
    · by_cases h2 : b < a
      · have h' : (b.toNat : Int) < a.toNat := by have := UInt8.lt_iff_toNat_lt.1 h2; omega
        rw [if_neg h, if_pos h2, ordI_anti, ordI_of_lt h']
        simp
      · have e : a = b := UInt8.toNat_inj.1 (by have := mt UInt8.lt_iff_toNat_lt.2 h; have := mt UInt8.lt_iff_toNat_lt.2 h2; omega)
        subst e
        rw [if_neg h, if_neg h, if_pos (ordI_self _)]
        exact ih
end Go.Proofs.YtpanbeoelbhhgaaGreatDoor
namespace Go.Proofs.YtpanbeoelbhhgaaGreatDoor
open Go.RowKit
attribute [local go_sem ↓] Go.wp_at_zero Go.wp_at_succ
structure BoundD where
  nm : ByteArray
  row : List Int
  v : Val
  asked : Bool
structure RowD where
  nm : ByteArray
  row : List Int
  nums : List Int
structure BoundAt (w : World) (B : Nat) (d : BoundD) (cs : List Value) : Prop where
  ex : ∃ A1 c1 A2 c2, cs = [.string d.nm, .slice A1 d.row.length c1, .int .i64 d.v.k, .int .i64 d.v.n, .string d.v.s, .slice A2 d.v.l.length c2, .bool d.asked] ∧ Reads w B 1 A1 d.row.length (numV .i64 d.row) ∧ Reads w B 1 A2 d.v.l.length (numV .i64 d.v.l)
  h1 : d.nm.size ≤ maxLen
  h2 : d.row.length ≤ maxLen
  h3 : d.v.s.size ≤ maxLen
  h4 : d.v.l.length ≤ maxLen
structure RowAt (w : World) (B : Nat) (d : RowD) (cs : List Value) : Prop where
  ex : ∃ A1 c1 A2 c2, cs = [.string d.nm, .slice A1 d.row.length c1, .slice A2 d.nums.length c2] ∧ Reads w B 1 A1 d.row.length (numV .i64 d.row) ∧ Reads w B 1 A2 d.nums.length (numV .i64 d.nums)
  h1 : d.nm.size ≤ maxLen
  h2 : d.row.length ≤ maxLen
  h3 : d.nums.length ≤ maxLen
theorem BoundAt.keep {w w' : World} {B : Nat} {d : BoundD} {cs : List Value} (h : BoundAt w B d cs) (hb : Below B w w') : BoundAt w' B d cs := by
  obtain ⟨⟨A1, c1, A2, c2, e, hx, hy⟩, h1, h2, h3, h4⟩ := h
  exact ⟨⟨A1, c1, A2, c2, e, hx.below hb, hy.below hb⟩, h1, h2, h3, h4⟩
theorem RowAt.keep {w w' : World} {B : Nat} {d : RowD} {cs : List Value} (h : RowAt w B d cs) (hb : Below B w w') : RowAt w' B d cs := by
  obtain ⟨⟨A1, c1, A2, c2, e, hx, hy⟩, h1, h2, h3⟩ := h
  exact ⟨⟨A1, c1, A2, c2, e, hx.below hb, hy.below hb⟩, h1, h2, h3⟩
abbrev BoundsAt := LiesAt BoundAt 7
abbrev RowssAt := LiesAt RowAt 3
theorem BoundsAt.keep {w w' : World} {B : Nat} {A : Option Addr} {l : List BoundD} (h : BoundsAt w B A l) (hb : Below B w w') : BoundsAt w' B A l := LiesAt.keep (fun _ _ h => h.keep hb) h hb
theorem RowssAt.keep {w w' : World} {B : Nat} {A : Option Addr} {l : List RowD} (h : RowssAt w B A l) (hb : Below B w w') : RowssAt w' B A l := LiesAt.keep (fun _ _ h => h.keep hb) h hb
def rowF (row : List Int) (n : Nat) : Int := if row.length ≠ n then 3 else if row.any badCode = true then 1 else 0
/-- the order of two rows of names -/
def cmpN (nm : ByteArray) (row : List Int) (nm' : ByteArray) (row' : List Int) : Int :=
  if Lib.compareBytes nm.data.toList nm'.data.toList = 0 then cmpL row row' else Lib.compareBytes nm.data.toList nm'.data.toList
def followF (nm : ByteArray) (row : List Int) (nm' : ByteArray) (row' : List Int) : Int := if cmpN nm row nm' row' = 0 then 6 else if cmpN nm row nm' row' = -1 then 7 else 0
theorem cmpB_range (a b : List UInt8) : Lib.compareBytes a b = -1 ∨ Lib.compareBytes a b = 0 ∨ Lib.compareBytes a b = 1 := by rw [cmpB_eq]; exact cmpL_range _ _
theorem cmpN_range (nm : ByteArray) (row : List Int) (nm' : ByteArray) (row' : List Int) : cmpN nm row nm' row' = -1 ∨ cmpN nm row nm' row' = 0 ∨ cmpN nm row nm' row' = 1 := by
  unfold cmpN
  split
  · exact cmpL_range _ _
  · exact cmpB_range _ _
/-- the numbers of a loop's rows -/
def leO (p : Option Int) (a : Int) : Bool := match p with
  | some q => decide (a ≤ q)
  | none => false
def numsF : Option Int → List Int → Int
  | _, [] => 0
  | p, a :: r => if badCode a = true then 1 else if leO p a = true then 7 else numsF (some a) r
def prevO (l : List Int) (k : Nat) : Option Int := if k = 0 then none else l[k - 1]?
theorem numsF_step (l : List Int) (k : Nat) (h : k < l.length) : numsF (prevO l k) (l.drop k) = if badCode l[k] = true then 1 else if 0 < k ∧ l[k] ≤ l.getD (k - 1) 0 then 7 else numsF (prevO l (k + 1)) (l.drop (k + 1)) := by
  rw [List.drop_eq_getElem_cons h, numsF]
  have e1 : prevO l (k + 1) = some l[k] := by unfold prevO; rw [if_neg (by omega)]; simp [h]
  rw [e1]
  cases hb : badCode l[k]
  · simp only [Bool.false_eq_true, if_false]
    rcases Nat.eq_zero_or_pos k with h0 | h0
    · subst h0
      rw [if_neg (show ¬ (0 < 0 ∧ _) from fun h => absurd h.1 (by omega))]
      rfl
    · have e2 : prevO l k = some (l.getD (k - 1) 0) := by
        unfold prevO
        rw [if_neg (by omega), List.getD_eq_getElem?_getD, List.getElem?_eq_getElem (show k - 1 < l.length by omega)]
        rfl
      rw [e2]
      by_cases h1 : l[k] ≤ l.getD (k - 1) 0
      · rw [if_pos (by simpa [leO] using h1), if_pos ⟨h0, h1⟩]
      · rw [if_neg (by simpa [leO] using h1), if_neg (fun h => h1 h.2)]
  · rw [if_pos rfl, if_pos rfl]
def boundF (cells : List CellD) (prev : List BoundD) (b : BoundD) : Int :=
  match cells.find? (fun c => decide (c.nm = b.nm)) with
  | none => 5
  | some c => if rowF b.row c.loops.length ≠ 0 then rowF b.row c.loops.length else if checkV b.v ≠ 0 then checkV b.v else if 1 < b.v.k ∧ b.v.k ≠ c.kind then 8 else
    match prev.getLast? with
    | none => 0
    | some p => followF b.nm b.row p.nm p.row
def rowsF (loops : List NestD) (prev : List RowD) (r : RowD) : Int :=
  match loops.find? (fun n => decide (n.nm = r.nm)) with
  | none => 5
  | some n => if rowF r.row n.loops.length ≠ 0 then rowF r.row n.loops.length else if numsF none r.nums ≠ 0 then numsF none r.nums else
    match prev.getLast? with
    | none => 0
    | some p => followF r.nm r.row p.nm p.row
def sceneF (cells : List CellD) (loops : List NestD) (bounds : List BoundD) (rows : List RowD) : Int :=
  if worldF cells loops ≠ 0 then worldF cells loops else if 20000 < bounds.length ∨ 20000 < rows.length then 2 else
  if firstF (boundF cells) [] bounds ≠ 0 then firstF (boundF cells) [] bounds else firstF (rowsF loops) [] rows
end Go.Proofs.YtpanbeoelbhhgaaGreatDoor
