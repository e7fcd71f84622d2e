/- The reference's kind whole; TypeOf of both. · The walks of 'compareInts' and 'Lists': lists of ints by the first elements that differ. No condition. · Bounds and rows of a scene: as they lie in memory, and what is wrong with them. · The walks of rowFault, checkRow, follows, behind. -/
import Derived.Test.YtcmccjcelchlhaaGreatDoorM11
import Derived.Test.YtcmccjcelchlhaaGreatDoorM1
namespace Go.Proofs.YtcmccjcelchlhaaGreatDoor
open Go.RowKit
attribute [local go_sem ↓] Go.wp_at_zero Go.wp_at_succ

set_option maxHeartbeats 2000000 in
set_option maxRecDepth 100000 in
theorem rkind_5 (e : Ex) (cells : List CellD) (loops : List NestD) (hk : e.k = 5) (AC AN : Option Addr) (cc cn B : Nat) (at_ : List ByteArray) (A : Option Addr) (c : Nat) (cs : List Value) (w : World) (hP : PartOk e) (hI : ∀ a ∈ e.ar, RkSpec cells loops a) (hNL : ∀ d ∈ loops, d.loops.length ≤ 1048576) (hx : ExAt w B e cs) (hC : CellsAt w B AC cells) (hN : NestsAt w B AN loops) (ha : at_.length ≤ maxLen) (hat : StrsAt w B A at_) (hc : at_.length ≤ c) (hB : B ≤ w.heap.size) :
    Calls Tryz.prog 21 #[.agg #[.slice AC cells.length cc, .slice AN loops.length cn], .agg cs.toArray, .slice A at_.length c] w fun en w' => en = .returned (.tuple #[.int .i64 (e.kind cells loops at_).1, .int .i64 (e.kind cells loops at_).2]) ∧ Below w.heap.size w w' := by
  have HX := Lib.hid hx
  obtain ⟨hn, hs, hl, ha8, hx, hr, hi⟩ := hx
  rename_i A1 c1 A2 c2 cs
  have hk1 : (e.k == 1) = false := by rw [hk]; rfl
  have hk2 : (e.k == 2) = false := by rw [hk]; rfl
  have hk3 : (e.k == 3) = false := by rw [hk]; rfl
  have hk5 : (e.k == 5) = true := by rw [hk]; rfl
  have HO := Lib.hid (fun w' (hb : Below w.heap.size w w') => rkind_over e cells loops hk AC AN cc cn B at_ A c _ w' hP hI hNL (HX.out.keep (hb.mono hB)) (hC.keep (hb.mono hB)) (hN.keep (hb.mono hB)) ha (hat.below (hb.mono hB)) hc (Nat.le_trans hB hb.size))
  clear hx hr hi hC hN hat hB hk hP hI hNL
  show Calls Tryz.prog 21 #[.agg #[.slice AC cells.length cc, .slice AN loops.length cn], .agg #[.int .i64 e.k, .int .i64 e.op, .string e.nm, .int .i64 e.v.k, .int .i64 e.v.n, .string e.v.s, .slice A1 e.v.l.length c1, .slice A2 e.ar.length c2], .slice A at_.length c] w _
  go_enter Tryz.func21, Tryz.ntmps21
  go_upto_region 1 with (fail)
  obtain ⟨W, hW⟩ : ∃ W, W = ((w.alloc (.cells #[.slice AC cells.length cc, .slice AN loops.length cn] 55 (0, 0))).alloc (.cells #[.int .i64 e.k, .int .i64 e.op, .string e.nm, .int .i64 e.v.k, .int .i64 e.v.n, .string e.v.s, .slice A1 e.v.l.length c1, .slice A2 e.ar.length c2] 27 (0, 0))) := ⟨_, rfl⟩
  have hbw : Below w.heap.size w W := by rw [hW]; exact (((Below.refl _ w).alloc (Nat.le_refl _) _).alloc (by simp) _)
  have B0 : Blk W (w.heap.size) 55 #[.slice AC cells.length cc, .slice AN loops.length cn] := by
    rw [hW]
    have := Blk.new w 55 #[.slice AC cells.length cc, .slice AN loops.length cn]
    have := this.alloc (.cells #[.int .i64 e.k, .int .i64 e.op, .string e.nm, .int .i64 e.v.k, .int .i64 e.v.n, .string e.v.s, .slice A1 e.v.l.length c1, .slice A2 e.ar.length c2] 27 (0, 0))
    exact this
  have B1 : Blk W (w.heap.size + 1) 27 #[.int .i64 e.k, .int .i64 e.op, .string e.nm, .int .i64 e.v.k, .int .i64 e.v.n, .string e.v.s, .slice A1 e.v.l.length c1, .slice A2 e.ar.length c2] := by
    rw [hW]
    have := Blk.new (w.alloc (.cells #[.slice AC cells.length cc, .slice AN loops.length cn] 55 (0, 0))) 27 #[.int .i64 e.k, .int .i64 e.op, .string e.nm, .int .i64 e.v.k, .int .i64 e.v.n, .string e.v.s, .slice A1 e.v.l.length c1, .slice A2 e.ar.length c2]
    rwa [World.size_alloc] at this
  have hsz : W.heap.size = w.heap.size + 2 := by rw [hW]; simp
  rw [← hW]
  clear hW hsz
  have tc0 : W.cell? ⟨w.heap.size, 0, none⟩ = some (.slice AC cells.length cc) := B0.cell 0
  have tc1 : W.cell? ⟨w.heap.size, 1, none⟩ = some (.slice AN loops.length cn) := B0.cell 1
  have ec0 : W.cell? ⟨w.heap.size + 1, 0, none⟩ = some (.int .i64 e.k) := B1.cell 0
  have ec1 : W.cell? ⟨w.heap.size + 1, 1, none⟩ = some (.int .i64 e.op) := B1.cell 1
  have ec2 : W.cell? ⟨w.heap.size + 1, 2, none⟩ = some (.string e.nm) := B1.cell 2
  have ec3 : W.cell? ⟨w.heap.size + 1, 3, none⟩ = some (.int .i64 e.v.k) := B1.cell 3
  have ec4 : W.cell? ⟨w.heap.size + 1, 4, none⟩ = some (.int .i64 e.v.n) := B1.cell 4
  have ec5 : W.cell? ⟨w.heap.size + 1, 5, none⟩ = some (.string e.v.s) := B1.cell 5
  have ec6 : W.cell? ⟨w.heap.size + 1, 6, none⟩ = some (.slice A1 e.v.l.length c1) := B1.cell 6
  have ec7 : W.cell? ⟨w.heap.size + 1, 7, none⟩ = some (.slice A2 e.ar.length c2) := B1.cell 7
  clear B0 B1
  go_wp2_with fail
  refine (HO.out W hbw).mono ?_
  rintro en w2 ⟨rfl, hb2⟩
  have hbw2 := hbw.trans (hb2.mono hbw.size)
  clear tc0 tc1 ec0 ec1 ec2 ec3 ec4 ec5 ec6 ec7
  go_wp2_with fail
  go_ret2
  exact ⟨by first | rfl | trivial, hbw2⟩
theorem rkind_any {cells : List CellD} {loops : List NestD} (hw : WOk cells loops) (hNL : ∀ d ∈ loops, d.loops.length ≤ 1048576) (e : Ex) : e.fault = 0 → RkSpec cells loops e := by
  induction e using Ex.ind with
  | h e ih =>
    intro hf AC AN cc cn B at_ A c cs w hx hC hN ha hat hc hB
    have P := partOk (fault_part hf)
    have hI := fun a h => ih a h (fault_arg hf a h)
    have hk := P.k
    obtain hk | hk | hk | hk | hk : e.k = 1 ∨ e.k = 2 ∨ e.k = 3 ∨ e.k = 4 ∨ e.k = 5 := by omega
    · exact rkind_1 e cells loops hk AC AN cc cn B at_ A c cs w P hx hC hN ha hat hc hB
    · exact rkind_2 e cells loops hk AC AN cc cn B at_ A c cs w P hx hC hN ha hat hc hB
    · exact rkind_3 e cells loops hk AC AN cc cn B at_ A c cs w P hx hC hN ha hat hc hB
    · exact rkind_4 e cells loops hk AC AN cc cn B at_ A c cs w P hI (fun a h => kind_ok hw a (fault_arg hf a h) at_) hx hC hN ha hat hc hB
    · exact rkind_5 e cells loops hk AC AN cc cn B at_ A c cs w P hI hNL hx hC hN ha hat hc hB
/-- what a right world is -/
theorem firstF_ok {α : Type} {f : List α → α → Int} : ∀ {l prev : List α}, firstF f prev l = 0 → ∀ i (h : i < l.length), f (prev ++ l.take i) l[i] = 0
  | a :: r, prev, h, i, hi => by
    rw [firstF] at h
    by_cases h0 : f prev a = 0
    · rw [if_neg (by rw [h0]; decide)] at h
      cases i with
      | zero => simpa using h0
      | succ i =>
        have := firstF_ok h i (by simpa using hi)
        simpa using this
    · rw [if_pos h0] at h; exact absurd h h0
theorem pair_of_prev {α : Type} {g : α → ByteArray} : ∀ {l : List α}, (∀ i (h : i < l.length), ∀ d ∈ l.take i, g d ≠ g l[i]) → l.Pairwise (fun a b => g a ≠ g b)
  | l, h => by
    rw [List.pairwise_iff_getElem]
    intro i j hi hj hij
    exact h j hj l[i] (by rw [List.mem_take_iff_getElem]; exact ⟨i, by omega, rfl⟩)
theorem wok_of {cells : List CellD} {loops : List NestD} (h : worldF cells loops = 0) : WOk cells loops := by
  unfold worldF at h
  by_cases c1 : firstF cellFault [] cells = 0
  · rw [if_neg (by rw [c1]; decide)] at h
    by_cases c2 : firstF nestFault [] loops = 0
    · refine ⟨fun c hc => ?_, pair_of_prev fun i hi d hd => ?_, pair_of_prev fun i hi d hd => ?_⟩
      · obtain ⟨i, hi, rfl⟩ := List.mem_iff_getElem.1 hc
        have := firstF_ok c1 i hi
        unfold cellFault at this
        split at this
        · exact absurd this (by decide)
        split at this
        · exact absurd this (by decide)
        split at this
        · exact absurd this (by decide)
        · rename_i hk
          exact outB_no (Bool.not_eq_true _ ▸ hk)
      · have := firstF_ok c1 i hi
        unfold cellFault at this
        split at this
        · exact absurd this (by decide)
        split at this
        · exact absurd this (by decide)
        · rename_i hk
          simp only [List.nil_append, List.any_eq_true, decide_eq_true_iff, not_exists, not_and] at hk
          exact hk d hd
      · have := firstF_ok c2 i hi
        unfold nestFault at this
        split at this
        · exact absurd this (by decide)
        split at this
        · exact absurd this (by decide)
        · rename_i hk
          simp only [List.nil_append, List.any_eq_true, decide_eq_true_iff, not_exists, not_and] at hk
          exact hk d hd
    · rw [if_pos c2] at h; exact absurd h c2
  · rw [if_pos c1] at h; exact absurd h c1
/-- TypeOf -/
def typeF (e : Ex) (cells : List CellD) (loops : List NestD) (at_ : List ByteArray) : Int × Int :=
  if checkE e ≠ 0 then (0, checkE e) else if worldF cells loops ≠ 0 then (0, worldF cells loops) else if nestedF loops at_ = false then (0, 9) else e.kind cells loops at_
theorem checkE_fault {e : Ex} (h : checkE e = 0) : e.fault = 0 := by
  unfold checkE at h
  split at h
  · exact absurd h (by decide)
  · exact h
set_option maxHeartbeats 2000000 in
set_option maxRecDepth 100000 in
theorem typeOf_any (e : Ex) (cells : List CellD) (loops : List NestD) (AC AN : Option Addr) (cc cn B : Nat) (at_ : List ByteArray) (A : Option Addr) (c : Nat) (cs : List Value) (w : World) (hx : ExAt w B e cs) (hC : CellsAt w B AC cells) (hN : NestsAt w B AN loops) (ha : at_.length ≤ maxLen) (hat : StrsAt w B A at_) (hc : at_.length ≤ c) (hB : B ≤ w.heap.size) (hp : e.parts ≤ 1000000) (hNL : ∀ d ∈ loops, d.loops.length ≤ 1048576) (hs : ∀ s ∈ at_, s.size ≤ maxLen) :
    Calls Tryz.prog 5 #[.agg cs.toArray, .slice AC cells.length cc, .slice AN loops.length cn, .slice A at_.length c] w fun en w' => en = .returned (.tuple #[.int .i64 (typeF e cells loops at_).1, .int .i64 (typeF e cells loops at_).2]) ∧ Below w.heap.size w w' := by
  have HX := Lib.hid hx
  have HCN := Lib.hid (And.intro hC hN)
  have HAT := Lib.hid (And.intro ha (And.intro hat (And.intro hc hB)))
  have HNL := Lib.hid hNL
  obtain ⟨hn, hs', hl, ha8, hx, hr, hi⟩ := hx
  rename_i A1 c1 A2 c2 cs
  have HS := Lib.hid hs
  clear hs hx hr hi hC hN hat hB hNL
  show Calls Tryz.prog 5 #[.agg #[.int .i64 e.k, .int .i64 e.op, .string e.nm, .int .i64 e.v.k, .int .i64 e.v.n, .string e.v.s, .slice A1 e.v.l.length c1, .slice A2 e.ar.length c2], .slice AC cells.length cc, .slice AN loops.length cn, .slice A at_.length c] w _
  go_enter Tryz.func5, Tryz.ntmps5
  go_upto_region 1 with (fail)
  obtain ⟨W, hW⟩ : ∃ W, W = (w.alloc (.cells #[.int .i64 e.k, .int .i64 e.op, .string e.nm, .int .i64 e.v.k, .int .i64 e.v.n, .string e.v.s, .slice A1 e.v.l.length c1, .slice A2 e.ar.length c2] 27 (0, 0))) := ⟨_, rfl⟩
  have hbw : Below w.heap.size w W := by rw [hW]; exact ((Below.refl _ w).alloc (Nat.le_refl _) _)
  have B0 : Blk W (w.heap.size) 27 #[.int .i64 e.k, .int .i64 e.op, .string e.nm, .int .i64 e.v.k, .int .i64 e.v.n, .string e.v.s, .slice A1 e.v.l.length c1, .slice A2 e.ar.length c2] := by
    rw [hW]
    have := Blk.new w 27 #[.int .i64 e.k, .int .i64 e.op, .string e.nm, .int .i64 e.v.k, .int .i64 e.v.n, .string e.v.s, .slice A1 e.v.l.length c1, .slice A2 e.ar.length c2]
    exact this
  have hsz : W.heap.size = w.heap.size + 1 := by rw [hW]; simp
  rw [← hW]
  clear hW hsz
  have ec0 : W.cell? ⟨w.heap.size, 0, none⟩ = some (.int .i64 e.k) := B0.cell 0
  have ec1 : W.cell? ⟨w.heap.size, 1, none⟩ = some (.int .i64 e.op) := B0.cell 1
  have ec2 : W.cell? ⟨w.heap.size, 2, none⟩ = some (.string e.nm) := B0.cell 2
  have ec3 : W.cell? ⟨w.heap.size, 3, none⟩ = some (.int .i64 e.v.k) := B0.cell 3
  have ec4 : W.cell? ⟨w.heap.size, 4, none⟩ = some (.int .i64 e.v.n) := B0.cell 4
  have ec5 : W.cell? ⟨w.heap.size, 5, none⟩ = some (.string e.v.s) := B0.cell 5
  have ec6 : W.cell? ⟨w.heap.size, 6, none⟩ = some (.slice A1 e.v.l.length c1) := B0.cell 6
  have ec7 : W.cell? ⟨w.heap.size, 7, none⟩ = some (.slice A2 e.ar.length c2) := B0.cell 7
  go_wp2_with fail
  obtain ⟨f1, hf1⟩ : ∃ f, checkE e = f := ⟨_, rfl⟩
  have HF1 := Lib.hid hf1
  refine (CheckExpr_any e B _ W (HX.out.keep (hbw.mono HAT.out.2.2.2)) (Nat.le_trans HAT.out.2.2.2 hbw.size) (by omega)).mono ?_
  rw [hf1]
  rintro en W1 ⟨rfl, hb1⟩
  have hbw1 := hbw.trans (hb1.mono hbw.size)
  have B0 := B0.below hb1 B0.lt
  clear ec0 ec1 ec2 ec3 ec4 ec5 ec6 ec7 hb1 hf1
  by_cases h0 : f1 = 0
  rotate_left
  · have bg : (f1 != 0) = true := by simpa using h0
    have HK := Lib.hid (show typeF e cells loops at_ = (0, f1) by unfold typeF; rw [HF1.out, if_pos h0])
    clear h0
    go_wp2_with fail
    go_ret2
    exact ⟨by rw [HK.out]; try rfl, hbw1⟩
  subst h0
  have hsB := Nat.le_trans HAT.out.2.2.2 hbw1.size
  obtain ⟨f2, hf2⟩ : ∃ f, worldF cells loops = f := ⟨_, rfl⟩
  have HF2 := Lib.hid hf2
  have hb1B := hbw1.mono HAT.out.2.2.2
  clear hf2
  go_upto_region 4 with (fail)
  have HWO := Lib.hid (worldOf_any cells loops AC cc AN cn B W1 (HCN.out.1.keep hb1B) (HCN.out.2.keep hb1B) hsB)
  go_wp2_with fail
  refine HWO.out.mono ?_
  rintro en W2 ⟨⟨f2', rfl, hf2', hmap⟩, hb2⟩
  rw [HF2.out] at hf2'
  subst hf2'
  have HMAP := Lib.hid hmap
  have hbw2 := hbw1.trans (hb2.mono hbw1.size)
  have B0 := B0.below hb2 B0.lt
  clear hmap hb2 HWO
  by_cases h0 : f2' = 0
  rotate_left
  · have bg : (f2' != 0) = true := by simpa using h0
    have HK := Lib.hid (show typeF e cells loops at_ = (0, f2') by unfold typeF; rw [HF1.out, HF2.out, if_neg (by decide), if_pos h0])
    clear h0
    go_wp2_with fail
    go_ret2
    exact ⟨by rw [HK.out]; try rfl, hbw2.alloc hbw2.size _⟩
  subst h0
  obtain ⟨kv1, kv2, hm1, hm2, hkc, hkn⟩ := HMAP.out rfl
  have HTW := Lib.hid (show TyW W2 B (W1.heap.size + 1) (W1.heap.size + 1 + 1) kv1 kv2 cells loops from ⟨hm1, hkc, hm2, hkn⟩)
  clear hm1 hm2 hkc hkn HMAP
  obtain ⟨q, hq⟩ : ∃ q, nestedF loops at_ = q := ⟨_, rfl⟩
  have HQ := Lib.hid hq
  obtain ⟨W3, hW3⟩ : ∃ W3, W3 = W2.alloc (.cells #[.map (some (W1.heap.size + 1)), .map (some (W1.heap.size + 1 + 1))] 49 (0, 0)) := ⟨_, rfl⟩
  have hb3 : Below W2.heap.size W2 W3 := hW3 ▸ (Below.refl _ W2).alloc (Nat.le_refl _) _
  have B3 : Blk W3 W2.heap.size 49 #[.map (some (W1.heap.size + 1)), .map (some (W1.heap.size + 1 + 1))] := hW3 ▸ Blk.new W2 _ _
  have hbw3 := hbw2.trans (hb3.mono hbw2.size)
  have B0 := B0.below hb3 B0.lt
  have hs2 := Nat.le_trans HAT.out.2.2.2 hbw2.size
  have hs3 := Nat.le_trans HAT.out.2.2.2 hbw3.size
  have HTW := Lib.hid (HTW.out.keep hb3 hs2)
  have HNE := Lib.hid (nested_any at_ A c (W1.heap.size + 1) (W1.heap.size + 1 + 1) B kv2 loops W3 HAT.out.1 HS.out (HAT.out.2.1.below (hbw3.mono HAT.out.2.2.2)) HAT.out.2.2.1 hs3 HTW.out.n HTW.out.nn)
  rw [hq] at HNE
  clear hq
  go_wp2_with fail
  rw [← hW3]
  clear hW3 hb3
  refine HNE.out.mono ?_
  rintro en W4 ⟨rfl, hb4⟩
  have hbw4 := hbw3.trans (hb4.mono hbw3.size)
  have hs4 := Nat.le_trans HAT.out.2.2.2 hbw4.size
  have HTW := Lib.hid (HTW.out.keep hb4 hs3)
  have B0 := B0.below hb4 B0.lt
  have B3 := B3.below hb4 B3.lt
  clear HNE hb4
  cases q
  · have HK := Lib.hid (show typeF e cells loops at_ = (0, 9) by unfold typeF; rw [HF1.out, HF2.out, if_neg (by decide), if_neg (by decide), if_pos HQ.out])
    go_wp2_with fail
    go_ret2
    exact ⟨by rw [HK.out]; try rfl, hbw4⟩
  · have HK := Lib.hid (show typeF e cells loops at_ = e.kind cells loops at_ by unfold typeF; rw [HF1.out, HF2.out, if_neg (by decide), if_neg (by decide), if_neg (by rw [HQ.out]; decide)])
    have HTY := Lib.hid (typed_any cells loops kv1 kv2 (W1.heap.size + 1) (W1.heap.size + 1 + 1) HNL.out e (checkE_fault HF1.out) B at_ A c _ W4 (HX.out.keep (hbw4.mono HAT.out.2.2.2)) HTW.out HAT.out.1 (HAT.out.2.1.below (hbw4.mono HAT.out.2.2.2)) HAT.out.2.2.1 hs4)
    have ec0 : W4.cell? ⟨w.heap.size, 0, none⟩ = some (.int .i64 e.k) := B0.cell 0
    have ec1 : W4.cell? ⟨w.heap.size, 1, none⟩ = some (.int .i64 e.op) := B0.cell 1
    have ec2 : W4.cell? ⟨w.heap.size, 2, none⟩ = some (.string e.nm) := B0.cell 2
    have ec3 : W4.cell? ⟨w.heap.size, 3, none⟩ = some (.int .i64 e.v.k) := B0.cell 3
    have ec4 : W4.cell? ⟨w.heap.size, 4, none⟩ = some (.int .i64 e.v.n) := B0.cell 4
    have ec5 : W4.cell? ⟨w.heap.size, 5, none⟩ = some (.string e.v.s) := B0.cell 5
    have ec6 : W4.cell? ⟨w.heap.size, 6, none⟩ = some (.slice A1 e.v.l.length c1) := B0.cell 6
    have ec7 : W4.cell? ⟨w.heap.size, 7, none⟩ = some (.slice A2 e.ar.length c2) := B0.cell 7
    have uc0 : W4.cell? ⟨W2.heap.size, 0, none⟩ = some (.map (some (W1.heap.size + 1))) := B3.cell 0
    have uc1 : W4.cell? ⟨W2.heap.size, 1, none⟩ = some (.map (some (W1.heap.size + 1 + 1))) := B3.cell 1
    clear B0 B3
    go_wp2_with fail
    refine HTY.out.mono ?_
    rintro en W5 ⟨rfl, hb5⟩
    clear ec0 ec1 ec2 ec3 ec4 ec5 ec6 ec7 uc0 uc1
    go_wp2_with fail
    go_ret2
    exact ⟨by rw [HK.out]; try rfl, hbw4.trans (hb5.mono hbw4.size)⟩
set_option maxHeartbeats 2000000 in
set_option maxRecDepth 100000 in
theorem rtypeOf_any (e : Ex) (cells : List CellD) (loops : List NestD) (AC AN : Option Addr) (cc cn B : Nat) (at_ : List ByteArray) (A : Option Addr) (c : Nat) (cs : List Value) (w : World) (hx : ExAt w B e cs) (hC : CellsAt w B AC cells) (hN : NestsAt w B AN loops) (ha : at_.length ≤ maxLen) (hat : StrsAt w B A at_) (hc : at_.length ≤ c) (hB : B ≤ w.heap.size) (hp : e.parts ≤ 1000000) (hNL : ∀ d ∈ loops, d.loops.length ≤ 1048576) (hcc : cells.length ≤ cc) (hcn : loops.length ≤ cn) (hsp : Sp w) :
    Calls Tryz.prog 6 #[.agg cs.toArray, .slice AC cells.length cc, .slice AN loops.length cn, .slice A at_.length c] w fun en w' => en = .returned (.tuple #[.int .i64 (typeF e cells loops at_).1, .int .i64 (typeF e cells loops at_).2]) ∧ Below w.heap.size w w' := by
  have HX := Lib.hid hx
  have HCN := Lib.hid (And.intro hC hN)
  have HAT := Lib.hid (And.intro ha (And.intro hat (And.intro hc hB)))
  have HNL := Lib.hid hNL
  obtain ⟨hn, hs', hl, ha8, hx, hr, hi⟩ := hx
  rename_i A1 c1 A2 c2 cs
  have HSP := Lib.hid (And.intro hcc (And.intro hcn hsp))
  clear hcc hcn hsp hx hr hi hC hN hat hB hNL
  show Calls Tryz.prog 6 #[.agg #[.int .i64 e.k, .int .i64 e.op, .string e.nm, .int .i64 e.v.k, .int .i64 e.v.n, .string e.v.s, .slice A1 e.v.l.length c1, .slice A2 e.ar.length c2], .slice AC cells.length cc, .slice AN loops.length cn, .slice A at_.length c] w _
  go_enter Tryz.func6, Tryz.ntmps6
  go_upto_region 1 with (fail)
  obtain ⟨W, hW⟩ : ∃ W, W = (w.alloc (.cells #[.int .i64 e.k, .int .i64 e.op, .string e.nm, .int .i64 e.v.k, .int .i64 e.v.n, .string e.v.s, .slice A1 e.v.l.length c1, .slice A2 e.ar.length c2] 27 (0, 0))) := ⟨_, rfl⟩
  have hbw : Below w.heap.size w W := by rw [hW]; exact ((Below.refl _ w).alloc (Nat.le_refl _) _)
  have B0 : Blk W (w.heap.size) 27 #[.int .i64 e.k, .int .i64 e.op, .string e.nm, .int .i64 e.v.k, .int .i64 e.v.n, .string e.v.s, .slice A1 e.v.l.length c1, .slice A2 e.ar.length c2] := by
    rw [hW]
    have := Blk.new w 27 #[.int .i64 e.k, .int .i64 e.op, .string e.nm, .int .i64 e.v.k, .int .i64 e.v.n, .string e.v.s, .slice A1 e.v.l.length c1, .slice A2 e.ar.length c2]
    exact this
  have hsz : W.heap.size = w.heap.size + 1 := by rw [hW]; simp
  rw [← hW]
  clear hW hsz
  have ec0 : W.cell? ⟨w.heap.size, 0, none⟩ = some (.int .i64 e.k) := B0.cell 0
  have ec1 : W.cell? ⟨w.heap.size, 1, none⟩ = some (.int .i64 e.op) := B0.cell 1
  have ec2 : W.cell? ⟨w.heap.size, 2, none⟩ = some (.string e.nm) := B0.cell 2
  have ec3 : W.cell? ⟨w.heap.size, 3, none⟩ = some (.int .i64 e.v.k) := B0.cell 3
  have ec4 : W.cell? ⟨w.heap.size, 4, none⟩ = some (.int .i64 e.v.n) := B0.cell 4
  have ec5 : W.cell? ⟨w.heap.size, 5, none⟩ = some (.string e.v.s) := B0.cell 5
  have ec6 : W.cell? ⟨w.heap.size, 6, none⟩ = some (.slice A1 e.v.l.length c1) := B0.cell 6
  have ec7 : W.cell? ⟨w.heap.size, 7, none⟩ = some (.slice A2 e.ar.length c2) := B0.cell 7
  go_wp2_with fail
  obtain ⟨f1, hf1⟩ : ∃ f, checkE e = f := ⟨_, rfl⟩
  have HF1 := Lib.hid hf1
  refine (rCheckExpr_any e B _ W (HX.out.keep (hbw.mono HAT.out.2.2.2)) (Nat.le_trans HAT.out.2.2.2 hbw.size) hp (tabIs_below HSP.out.2.2 hbw)).mono ?_
  rw [hf1]
  rintro en W1 ⟨rfl, hb1⟩
  have hbw1 := hbw.trans (hb1.mono hbw.size)
  have B0 := B0.below hb1 B0.lt
  clear ec0 ec1 ec2 ec3 ec4 ec5 ec6 ec7 hb1 hf1
  by_cases h0 : f1 = 0
  rotate_left
  · have bg : (f1 != 0) = true := by simpa using h0
    have HK := Lib.hid (show typeF e cells loops at_ = (0, f1) by unfold typeF; rw [HF1.out, if_pos h0])
    clear h0
    go_wp2_with fail
    go_ret2
    exact ⟨by rw [HK.out]; try rfl, hbw1⟩
  subst h0
  have hsB := Nat.le_trans HAT.out.2.2.2 hbw1.size
  obtain ⟨f2, hf2⟩ : ∃ f, worldF cells loops = f := ⟨_, rfl⟩
  have HF2 := Lib.hid hf2
  have hb1B := hbw1.mono HAT.out.2.2.2
  clear hf2
  obtain ⟨W3, hW3⟩ : ∃ W3, W3 = W1.alloc (.cells #[.slice AC cells.length cc, .slice AN loops.length cn] 55 (0, 0)) := ⟨_, rfl⟩
  have hb3 : Below W1.heap.size W1 W3 := hW3 ▸ (Below.refl _ W1).alloc (Nat.le_refl _) _
  have B3 : Blk W3 W1.heap.size 55 #[.slice AC cells.length cc, .slice AN loops.length cn] := hW3 ▸ Blk.new W1 _ _
  have hbw3 := hbw1.trans (hb3.mono hbw1.size)
  have B0 := B0.below hb3 B0.lt
  have hs3 := Nat.le_trans HAT.out.2.2.2 hbw3.size
  have HCK := Lib.hid (rcheckW_any cells loops AC cc AN cn B W3 (HCN.out.1.keep (hbw3.mono HAT.out.2.2.2)) (HCN.out.2.keep (hbw3.mono HAT.out.2.2.2)) HSP.out.1 HSP.out.2.1 hs3 (tabIs_below HSP.out.2.2 hbw3))
  rw [HF2.out] at HCK
  go_wp2_with fail
  rw [← hW3]
  clear hW3 hb3
  have tc0 : W3.cell? ⟨W1.heap.size, 0, none⟩ = some (.slice AC cells.length cc) := B3.cell 0
  have tc1 : W3.cell? ⟨W1.heap.size, 1, none⟩ = some (.slice AN loops.length cn) := B3.cell 1
  go_wp2_with fail
  refine HCK.out.mono ?_
  rintro en W4 ⟨rfl, hb4⟩
  have hbw4 := hbw3.trans (hb4.mono hbw3.size)
  have hs4 := Nat.le_trans HAT.out.2.2.2 hbw4.size
  have B0 := B0.below hb4 B0.lt
  have B3 := B3.below hb4 B3.lt
  clear hb4 HCK tc0 tc1
  by_cases h0 : f2 = 0
  rotate_left
  · have bg : (f2 != 0) = true := by simpa using h0
    have HK := Lib.hid (show typeF e cells loops at_ = (0, f2) by unfold typeF; rw [HF1.out, HF2.out, if_neg (by decide), if_pos h0])
    clear h0
    go_wp2_with fail
    go_ret2
    exact ⟨by rw [HK.out]; try rfl, hbw4⟩
  subst h0
  obtain ⟨q, hq⟩ : ∃ q, nestedF loops at_ = q := ⟨_, rfl⟩
  have HQ := Lib.hid hq
  have HPL := Lib.hid (isPlace_any loops AN cn at_ A c B W4 (HCN.out.2.keep (hbw4.mono HAT.out.2.2.2)) HAT.out.1 (HAT.out.2.1.below (hbw4.mono HAT.out.2.2.2)) HAT.out.2.2.1 hs4)
  rw [hq] at HPL
  clear hq
  go_wp2_with fail
  refine HPL.out.mono ?_
  rintro en W5 ⟨rfl, hb5⟩
  have hbw5 := hbw4.trans (hb5.mono hbw4.size)
  have hs5 := Nat.le_trans HAT.out.2.2.2 hbw5.size
  have B0 := B0.below hb5 B0.lt
  have B3 := B3.below hb5 B3.lt
  clear hb5 HPL
  cases q
  · have HK := Lib.hid (show typeF e cells loops at_ = (0, 9) by unfold typeF; rw [HF1.out, HF2.out, if_neg (by decide), if_neg (by decide), if_pos HQ.out])
    go_wp2_with fail
    go_ret2
    exact ⟨by rw [HK.out]; try rfl, hbw5⟩
  · have HK := Lib.hid (show typeF e cells loops at_ = e.kind cells loops at_ by unfold typeF; rw [HF1.out, HF2.out, if_neg (by decide), if_neg (by decide), if_neg (by rw [HQ.out]; decide)])
    have HTY := Lib.hid (rkind_any (wok_of HF2.out) HNL.out e (checkE_fault HF1.out) AC AN cc cn B at_ A c _ W5 (HX.out.keep (hbw5.mono HAT.out.2.2.2)) (HCN.out.1.keep (hbw5.mono HAT.out.2.2.2)) (HCN.out.2.keep (hbw5.mono HAT.out.2.2.2)) HAT.out.1 (HAT.out.2.1.below (hbw5.mono HAT.out.2.2.2)) HAT.out.2.2.1 hs5)
    have ec0 : W5.cell? ⟨w.heap.size, 0, none⟩ = some (.int .i64 e.k) := B0.cell 0
    have ec1 : W5.cell? ⟨w.heap.size, 1, none⟩ = some (.int .i64 e.op) := B0.cell 1
    have ec2 : W5.cell? ⟨w.heap.size, 2, none⟩ = some (.string e.nm) := B0.cell 2
    have ec3 : W5.cell? ⟨w.heap.size, 3, none⟩ = some (.int .i64 e.v.k) := B0.cell 3
    have ec4 : W5.cell? ⟨w.heap.size, 4, none⟩ = some (.int .i64 e.v.n) := B0.cell 4
    have ec5 : W5.cell? ⟨w.heap.size, 5, none⟩ = some (.string e.v.s) := B0.cell 5
    have ec6 : W5.cell? ⟨w.heap.size, 6, none⟩ = some (.slice A1 e.v.l.length c1) := B0.cell 6
    have ec7 : W5.cell? ⟨w.heap.size, 7, none⟩ = some (.slice A2 e.ar.length c2) := B0.cell 7
    have uc0 : W5.cell? ⟨W1.heap.size, 0, none⟩ = some (.slice AC cells.length cc) := B3.cell 0
    have uc1 : W5.cell? ⟨W1.heap.size, 1, none⟩ = some (.slice AN loops.length cn) := B3.cell 1
    clear B0 B3
    go_wp2_with fail
    refine HTY.out.mono ?_
    rintro en W6 ⟨rfl, hb6⟩
    clear ec0 ec1 ec2 ec3 ec4 ec5 ec6 ec7 uc0 uc1
    go_wp2_with fail
    go_ret2
    exact ⟨by rw [HK.out]; try rfl, hbw5.trans (hb6.mono hbw5.size)⟩
end Go.Proofs.YtcmccjcelchlhaaGreatDoor
namespace Go.Proofs.YtcmccjcelchlhaaGreatDoor
open Go.RowKit

def cmpL : List Int → List Int → Int
  | [], [] => 0
  | [], _ :: _ => -1
  | _ :: _, [] => 1
  | a :: l, b :: r => if ordI a b = 0 then cmpL l r else ordI a b

theorem cmpL_drop {xs ys : List Int} {k : Nat} (h1 : k < xs.length) (h2 : k < ys.length) (h : ordI xs[k] ys[k] = 0) : cmpL (xs.drop k) (ys.drop k) = cmpL (xs.drop (k + 1)) (ys.drop (k + 1)) := by
  rw [List.drop_eq_getElem_cons h1, List.drop_eq_getElem_cons h2]
  simp [cmpL, h]
theorem cmpL_stop {xs ys : List Int} {k : Nat} (h1 : k < xs.length) (h2 : k < ys.length) (h : ordI xs[k] ys[k] ≠ 0) : cmpL (xs.drop k) (ys.drop k) = ordI xs[k] ys[k] := by
  rw [List.drop_eq_getElem_cons h1, List.drop_eq_getElem_cons h2]
  simp [cmpL, h]
theorem cmpL_nil_left (l : List Int) (h : 0 < l.length) : cmpL [] l = -1 := by cases l <;> simp_all [cmpL]
theorem cmpL_nil_right (l : List Int) (h : 0 < l.length) : cmpL l [] = 1 := by cases l <;> simp_all [cmpL]
theorem cmpL_end {xs ys : List Int} {k : Nat} (hk : k ≤ xs.length) (hk' : k ≤ ys.length) (h : ¬ (k < xs.length ∧ k < ys.length)) : cmpL (xs.drop k) (ys.drop k) = ordI xs.length ys.length := by
  by_cases h1 : k < xs.length
  · rw [show ys.drop k = [] from List.drop_eq_nil_of_le (by omega), cmpL_nil_right _ (by simp; omega)]
    simp only [ordI]
    rw [if_neg (by omega), if_pos (by omega)]
  · rw [show xs.drop k = [] from List.drop_eq_nil_of_le (by omega)]
    by_cases h2 : k < ys.length
    · rw [cmpL_nil_left _ (by simp; omega)]
      simp only [ordI]
      rw [if_pos (by omega)]
    · rw [show ys.drop k = [] from List.drop_eq_nil_of_le (by omega)]
      simp only [ordI, cmpL]
      rw [if_neg (by omega), if_neg (by omega)]

set_option maxHeartbeats 400000 in
theorem compareInts_any (A B : Option Addr) (n c m d B1 B2 : Nat) (xs ys : List Int) (w : World) (hn : n ≤ maxLen) (hm : m ≤ maxLen)
    (hx0 : Reads w B1 1 A n (numV .i64 xs)) (hy0 : Reads w B2 1 B m (numV .i64 ys)) (hB1 : B1 ≤ w.heap.size) (hB2 : B2 ≤ w.heap.size) :
    Calls Tryz.prog 126 #[.slice A n c, .slice B m d] w fun e w' => e = .returned (.int .i64 (cmpL xs ys)) ∧ Below w.heap.size w w' := by
  have hx := hx0.more hB1
  have hy := hy0.more hB2
  clear hx0 hy0 hB1 hB2
  have hxl : n = xs.length := by have := hx.1; rw [numV_len] at this; omega
  have hyl : m = ys.length := by have := hy.1; rw [numV_len] at this; omega
  subst hxl hyl
  unfold maxLen at hn hm
  go_enter Tryz.func126, Tryz.ntmps126
  go_wp2
  go_loopw [5] (fun i wr => ∃ k : Nat, k ≤ xs.length ∧ k ≤ ys.length ∧ i = .int .i64 k ∧ Below w.heap.size w wr ∧ cmpL xs ys = cmpL (xs.drop k) (ys.drop k)) (fun i _ => xs.length - (intOf i).toNat)
  case atStart => exact ⟨0, Nat.zero_le _, Nat.zero_le _, rfl, Below.refl _ _, rfl⟩
  case round =>
    obtain ⟨k, hk1, hk2, rfl, hb, hc⟩ := hrel
    have HC := Lib.hid hc
    clear hc
    by_cases hlt : k < xs.length ∧ k < ys.length
    · obtain ⟨h1, h2⟩ := hlt
      obtain ⟨ax, u, rfl, _, hu, hcx⟩ := (hx.below hb).at_ h1
      obtain ⟨ay, v, rfl, _, hv, hcy⟩ := (hy.below hb).at_ h2
      obtain ⟨_, rfl⟩ := numV_get _ _ _ _ hu
      obtain ⟨_, rfl⟩ := numV_get _ _ _ _ hv
      clear hu hv hx hy
      by_cases hz : ordI xs[k] ys[k] = 0
      · have hs := cmpL_drop h1 h2 hz
        have hz1 : (ordI xs[k] ys[k] != 0) = false := by simp [hz]
        have HS := Lib.hid hs
        have HZ := Lib.hid hz1
        clear hs hz hz1
        go_wp2
        go_quiet ((go_at_call 152; exact Calls.quiet_of_same (order_any' _ _ _)))
        have hz1 := HZ.out
        go_wp2
        go_roundw
        case rel => exact ⟨k + 1, by omega, by omega, by go_num, hb.drewN _, by rw [HC.out, HS.out]⟩
        case measure => simp [intOf]; omega
      · have hs := cmpL_stop h1 h2 hz
        have hz1 : (ordI xs[k] ys[k] != 0) = true := by simp [hz]
        have HS := Lib.hid hs
        have HZ := Lib.hid hz1
        clear hs hz hz1
        go_wp2
        go_quiet ((go_at_call 152; exact Calls.quiet_of_same (order_any' _ _ _)))
        have hz1 := HZ.out
        go_wp2
        go_ret
        exact ⟨ret_int (by rw [HC.out, HS.out]), hb.drewN _⟩
    · have he := cmpL_end hk1 hk2 hlt
      have HE := Lib.hid he
      clear he
      have hlt' : k < xs.length → ¬ k < ys.length := fun h h' => hlt ⟨h, h'⟩
      clear hlt
      by_cases h1 : k < xs.length
      · have h2 := hlt' h1
        clear hlt'
        go_wp2_with (go_at_call 152; refine (order_any _ _ _).mono ?_; rintro e w' ⟨rfl, rfl⟩)
        go_ret
        exact ⟨ret_int (by rw [HC.out, HE.out]), hb⟩
      · clear hlt'
        go_wp2_with (go_at_call 152; refine (order_any _ _ _).mono ?_; rintro e w' ⟨rfl, rfl⟩)
        go_ret
        exact ⟨ret_int (by rw [HC.out, HE.out]), hb⟩

set_option maxHeartbeats 400000 in
theorem lists_any (A B : Option Addr) (n c m d B1 B2 : Nat) (xs ys : List Int) (w : World) (hn : n ≤ maxLen) (hm : m ≤ maxLen)
    (hx0 : Reads w B1 1 A n (numV .i64 xs)) (hy0 : Reads w B2 1 B m (numV .i64 ys)) (hB1 : B1 ≤ w.heap.size) (hB2 : B2 ≤ w.heap.size) :
    Calls Tryz.prog 92 #[.slice A n c, .slice B m d] w fun e w' => e = .returned (.int .i64 (cmpL xs ys)) ∧ Below w.heap.size w w' := by
  have hx := hx0.more hB1
  have hy := hy0.more hB2
  clear hx0 hy0 hB1 hB2
  have hxl : n = xs.length := by have := hx.1; rw [numV_len] at this; omega
  have hyl : m = ys.length := by have := hy.1; rw [numV_len] at this; omega
  subst hxl hyl
  unfold maxLen at hn hm
  go_enter Tryz.func92, Tryz.ntmps92
  go_wp2
  go_loopw [5] (fun i wr => ∃ k : Nat, k ≤ xs.length ∧ k ≤ ys.length ∧ i = .int .i64 k ∧ Below w.heap.size w wr ∧ cmpL xs ys = cmpL (xs.drop k) (ys.drop k)) (fun i _ => xs.length - (intOf i).toNat)
  case atStart => exact ⟨0, Nat.zero_le _, Nat.zero_le _, rfl, Below.refl _ _, rfl⟩
  case round =>
    obtain ⟨k, hk1, hk2, rfl, hb, hc⟩ := hrel
    have HC := Lib.hid hc
    clear hc
    by_cases hlt : k < xs.length ∧ k < ys.length
    · obtain ⟨h1, h2⟩ := hlt
      obtain ⟨ax, u, rfl, _, hu, hcx⟩ := (hx.below hb).at_ h1
      obtain ⟨ay, v, rfl, _, hv, hcy⟩ := (hy.below hb).at_ h2
      obtain ⟨_, rfl⟩ := numV_get _ _ _ _ hu
      obtain ⟨_, rfl⟩ := numV_get _ _ _ _ hv
      clear hu hv hx hy
      by_cases hz : ordI xs[k] ys[k] = 0
      · have hs := cmpL_drop h1 h2 hz
        have hz1 : (ordI xs[k] ys[k] != 0) = false := by simp [hz]
        have HS := Lib.hid hs
        have HZ := Lib.hid hz1
        clear hs hz hz1
        go_wp2
        go_quiet ((go_at_call 130; exact Calls.quiet_of_same (sign_any' _ _ _)))
        have hz1 := HZ.out
        go_wp2
        go_roundw
        case rel => exact ⟨k + 1, by omega, by omega, by go_num, hb.drewN _, by rw [HC.out, HS.out]⟩
        case measure => simp [intOf]; omega
      · have hs := cmpL_stop h1 h2 hz
        have hz1 : (ordI xs[k] ys[k] != 0) = true := by simp [hz]
        have HS := Lib.hid hs
        have HZ := Lib.hid hz1
        clear hs hz hz1
        go_wp2
        go_quiet ((go_at_call 130; exact Calls.quiet_of_same (sign_any' _ _ _)))
        have hz1 := HZ.out
        go_wp2
        go_ret
        exact ⟨ret_int (by rw [HC.out, HS.out]), hb.drewN _⟩
    · have he := cmpL_end hk1 hk2 hlt
      have HE := Lib.hid he
      clear he
      have hlt' : k < xs.length → ¬ k < ys.length := fun h h' => hlt ⟨h, h'⟩
      clear hlt
      by_cases h1 : k < xs.length
      · have h2 := hlt' h1
        clear hlt'
        go_wp2_with (go_at_call 130; refine (sign_any _ _ _).mono ?_; rintro e w' ⟨rfl, rfl⟩)
        go_ret
        exact ⟨ret_int (by rw [HC.out, HE.out]), hb⟩
      · clear hlt'
        go_wp2_with (go_at_call 130; refine (sign_any _ _ _).mono ?_; rintro e w' ⟨rfl, rfl⟩)
        go_ret
        exact ⟨ret_int (by rw [HC.out, HE.out]), hb⟩
theorem ordI_range (a b : Int) : ordI a b = -1 ∨ ordI a b = 0 ∨ ordI a b = 1 := by unfold ordI; split <;> (try split) <;> simp
theorem ordI_anti (a b : Int) : ordI a b = -ordI b a := by unfold ordI; split <;> split <;> (try split) <;> omega
theorem ordI_self (a : Int) : ordI a a = 0 := by unfold ordI; simp
theorem ordI_zero {a b : Int} (h : ordI a b = 0) : a = b := by unfold ordI at h; split at h <;> (try split at h) <;> omega
theorem ordI_le {a b : Int} (h : ordI a b ≤ 0) : a ≤ b := by unfold ordI at h; split at h <;> (try split at h) <;> omega
theorem ordI_lt {a b : Int} (h : ordI a b = -1) : a < b := by unfold ordI at h; split at h <;> (try split at h) <;> omega
theorem ordI_of_lt {a b : Int} (h : a < b) : ordI a b = -1 := by unfold ordI; rw [if_pos h]

theorem cmpL_range : ∀ a b : List Int, cmpL a b = -1 ∨ cmpL a b = 0 ∨ cmpL a b = 1
  | [], [] => by simp [cmpL]
  | [], _ :: _ => by simp [cmpL]
  | _ :: _, [] => by simp [cmpL]
  | a :: l, b :: r => by
    unfold cmpL
    split
    · exact cmpL_range l r
    · exact ordI_range a b
theorem cmpL_anti : ∀ a b : List Int, cmpL a b = -cmpL b a
  | [], [] => by simp [cmpL]
  | [], _ :: _ => by simp [cmpL]
  | _ :: _, [] => by simp [cmpL]
  | a :: l, b :: r => by
    have h := ordI_anti a b
    unfold cmpL
    by_cases h0 : ordI a b = 0
    · rw [if_pos h0, if_pos (by omega)]; exact cmpL_anti l r
    · rw [if_neg h0, if_neg (by omega)]; exact h
theorem cmpL_zero : ∀ {a b : List Int}, cmpL a b = 0 → a = b
  | [], [], _ => rfl
  | [], _ :: _, h => by simp [cmpL] at h
  | _ :: _, [], h => by simp [cmpL] at h
  | a :: l, b :: r, h => by
    unfold cmpL at h
    split at h
    · rename_i h0; rw [ordI_zero h0, cmpL_zero h]
    · omega
theorem cmpL_self : ∀ a : List Int, cmpL a a = 0
  | [] => rfl
  | a :: l => by unfold cmpL; rw [if_pos (ordI_self a)]; exact cmpL_self l
def byteI (l : List UInt8) : List Int := l.map fun c => (c.toNat : Int)
theorem byteI_inj {a b : List UInt8} (h : byteI a = byteI b) : a = b := by
  induction a generalizing b with
  | nil => cases b <;> simp_all [byteI]
  | cons x l ih =>
    cases b with
    | nil => simp [byteI] at h
    | cons y r =>
      simp only [byteI, List.map_cons, List.cons.injEq] at h
      obtain ⟨h1, h2⟩ := h
      have e : x = y := UInt8.toNat_inj.1 (by omega)
      rw [ih h2, e]
theorem cmpB_eq : ∀ a b : List UInt8, Lib.compareBytes a b = cmpL (byteI a) (byteI b)
  | [], [] => rfl
  | [], _ :: _ => rfl
  | _ :: _, [] => rfl
  | a :: l, b :: r => by
    unfold Lib.compareBytes
    simp only [byteI, List.map_cons, cmpL]
    have ih := cmpB_eq l r
    simp only [byteI] at ih
    by_cases h : a < b
    · have h' : (a.toNat : Int) < b.toNat := by have := UInt8.lt_iff_toNat_lt.1 h; omega
      rw [if_pos h, ordI_of_lt h']
      simp
    · by_cases h2 : b < a
      · have h' : (b.toNat : Int) < a.toNat := by have := UInt8.lt_iff_toNat_lt.1 h2; omega
        rw [if_neg h, if_pos h2, ordI_anti, ordI_of_lt h']
        simp
      · have e : a = b := UInt8.toNat_inj.1 (by have := mt UInt8.lt_iff_toNat_lt.2 h; have := mt UInt8.lt_iff_toNat_lt.2 h2; omega)
        subst e
        rw [if_neg h, if_neg h, if_pos (ordI_self _)]
        exact ih

end Go.Proofs.YtcmccjcelchlhaaGreatDoor
namespace Go.Proofs.YtcmccjcelchlhaaGreatDoor
open Go.RowKit
attribute [local go_sem ↓] Go.wp_at_zero Go.wp_at_succ

structure BoundD where
  nm : ByteArray
  row : List Int
  v : Val
  asked : Bool
structure RowD where
  nm : ByteArray
  row : List Int
  nums : List Int
structure BoundAt (w : World) (B : Nat) (d : BoundD) (cs : List Value) : Prop where
  ex : ∃ A1 c1 A2 c2, cs = [.string d.nm, .slice A1 d.row.length c1, .int .i64 d.v.k, .int .i64 d.v.n, .string d.v.s, .slice A2 d.v.l.length c2, .bool d.asked] ∧ Reads w B 1 A1 d.row.length (numV .i64 d.row) ∧ Reads w B 1 A2 d.v.l.length (numV .i64 d.v.l)
  h1 : d.nm.size ≤ maxLen
  h2 : d.row.length ≤ maxLen
  h3 : d.v.s.size ≤ maxLen
  h4 : d.v.l.length ≤ maxLen
structure RowAt (w : World) (B : Nat) (d : RowD) (cs : List Value) : Prop where
  ex : ∃ A1 c1 A2 c2, cs = [.string d.nm, .slice A1 d.row.length c1, .slice A2 d.nums.length c2] ∧ Reads w B 1 A1 d.row.length (numV .i64 d.row) ∧ Reads w B 1 A2 d.nums.length (numV .i64 d.nums)
  h1 : d.nm.size ≤ maxLen
  h2 : d.row.length ≤ maxLen
  h3 : d.nums.length ≤ maxLen
theorem BoundAt.keep {w w' : World} {B : Nat} {d : BoundD} {cs : List Value} (h : BoundAt w B d cs) (hb : Below B w w') : BoundAt w' B d cs := by
  obtain ⟨⟨A1, c1, A2, c2, e, hx, hy⟩, h1, h2, h3, h4⟩ := h
  exact ⟨⟨A1, c1, A2, c2, e, hx.below hb, hy.below hb⟩, h1, h2, h3, h4⟩
theorem RowAt.keep {w w' : World} {B : Nat} {d : RowD} {cs : List Value} (h : RowAt w B d cs) (hb : Below B w w') : RowAt w' B d cs := by
  obtain ⟨⟨A1, c1, A2, c2, e, hx, hy⟩, h1, h2, h3⟩ := h
  exact ⟨⟨A1, c1, A2, c2, e, hx.below hb, hy.below hb⟩, h1, h2, h3⟩
abbrev BoundsAt := LiesAt BoundAt 7
abbrev RowssAt := LiesAt RowAt 3
theorem BoundsAt.keep {w w' : World} {B : Nat} {A : Option Addr} {l : List BoundD} (h : BoundsAt w B A l) (hb : Below B w w') : BoundsAt w' B A l := LiesAt.keep (fun _ _ h => h.keep hb) h hb
theorem RowssAt.keep {w w' : World} {B : Nat} {A : Option Addr} {l : List RowD} (h : RowssAt w B A l) (hb : Below B w w') : RowssAt w' B A l := LiesAt.keep (fun _ _ h => h.keep hb) h hb

/-! what is wrong -/
def rowF (row : List Int) (n : Nat) : Int := if row.length ≠ n then 3 else if row.any badCode = true then 1 else 0
/-- the order of two rows of names -/
def cmpN (nm : ByteArray) (row : List Int) (nm' : ByteArray) (row' : List Int) : Int :=
  if Lib.compareBytes nm.data.toList nm'.data.toList = 0 then cmpL row row' else Lib.compareBytes nm.data.toList nm'.data.toList
def followF (nm : ByteArray) (row : List Int) (nm' : ByteArray) (row' : List Int) : Int := if cmpN nm row nm' row' = 0 then 6 else if cmpN nm row nm' row' = -1 then 7 else 0
def behindF (nm : ByteArray) (row : List Int) (nm' : ByteArray) (row' : List Int) : Int := if 0 < cmpN nm' row' nm row then 7 else if cmpN nm' row' nm row = 0 then 6 else 0
theorem cmpB_anti (a b : List UInt8) : Lib.compareBytes a b = -Lib.compareBytes b a := by rw [cmpB_eq, cmpB_eq]; exact cmpL_anti _ _
theorem cmpB_range (a b : List UInt8) : Lib.compareBytes a b = -1 ∨ Lib.compareBytes a b = 0 ∨ Lib.compareBytes a b = 1 := by rw [cmpB_eq]; exact cmpL_range _ _
theorem cmpN_anti (nm : ByteArray) (row : List Int) (nm' : ByteArray) (row' : List Int) : cmpN nm row nm' row' = -cmpN nm' row' nm row := by
  unfold cmpN
  have h := cmpB_anti nm.data.toList nm'.data.toList
  by_cases h0 : Lib.compareBytes nm.data.toList nm'.data.toList = 0
  · rw [if_pos h0, if_pos (by omega)]; exact cmpL_anti _ _
  · rw [if_neg h0, if_neg (by omega)]; exact h
theorem cmpN_range (nm : ByteArray) (row : List Int) (nm' : ByteArray) (row' : List Int) : cmpN nm row nm' row' = -1 ∨ cmpN nm row nm' row' = 0 ∨ cmpN nm row nm' row' = 1 := by
  unfold cmpN
  split
  · exact cmpL_range _ _
  · exact cmpB_range _ _
theorem behind_eq (nm : ByteArray) (row : List Int) (nm' : ByteArray) (row' : List Int) : behindF nm row nm' row' = followF nm row nm' row' := by
  unfold behindF followF
  have h := cmpN_anti nm row nm' row'
  rcases cmpN_range nm row nm' row' with h1 | h1 | h1
  · rw [if_pos (by omega), if_neg (by omega), if_pos h1]
  · rw [if_neg (by omega), if_pos (by omega), if_pos h1]
  · rw [if_neg (by omega), if_neg (by omega), if_neg (by omega), if_neg (by omega)]
/-- the numbers of a loop's rows -/
def leO (p : Option Int) (a : Int) : Bool := match p with
  | some q => decide (a ≤ q)
  | none => false
def numsF : Option Int → List Int → Int
  | _, [] => 0
  | p, a :: r => if badCode a = true then 1 else if leO p a = true then 7 else numsF (some a) r
def prevO (l : List Int) (k : Nat) : Option Int := if k = 0 then none else l[k - 1]?
theorem numsF_step (l : List Int) (k : Nat) (h : k < l.length) : numsF (prevO l k) (l.drop k) = if badCode l[k] = true then 1 else if 0 < k ∧ l[k] ≤ l.getD (k - 1) 0 then 7 else numsF (prevO l (k + 1)) (l.drop (k + 1)) := by
  rw [List.drop_eq_getElem_cons h, numsF]
  have e1 : prevO l (k + 1) = some l[k] := by unfold prevO; rw [if_neg (by omega)]; simp [h]
  rw [e1]
  cases hb : badCode l[k]
  · simp only [Bool.false_eq_true, if_false]
    rcases Nat.eq_zero_or_pos k with h0 | h0
    · subst h0
      rw [if_neg (show ¬ (0 < 0 ∧ _) from fun h => absurd h.1 (by omega))]
      rfl
    · have e2 : prevO l k = some (l.getD (k - 1) 0) := by
        unfold prevO
        rw [if_neg (by omega), List.getD_eq_getElem?_getD, List.getElem?_eq_getElem (show k - 1 < l.length by omega)]
        rfl
      rw [e2]
      by_cases h1 : l[k] ≤ l.getD (k - 1) 0
      · rw [if_pos (by simpa [leO] using h1), if_pos ⟨h0, h1⟩]
      · rw [if_neg (by simpa [leO] using h1), if_neg (fun h => h1 h.2)]
  · rw [if_pos rfl, if_pos rfl]
def boundF (cells : List CellD) (prev : List BoundD) (b : BoundD) : Int :=
  match cells.find? (fun c => decide (c.nm = b.nm)) with
  | none => 5
  | some c => if rowF b.row c.loops.length ≠ 0 then rowF b.row c.loops.length else if checkV b.v ≠ 0 then checkV b.v else if 1 < b.v.k ∧ b.v.k ≠ c.kind then 8 else
    match prev.getLast? with
    | none => 0
    | some p => followF b.nm b.row p.nm p.row
def rowsF (loops : List NestD) (prev : List RowD) (r : RowD) : Int :=
  match loops.find? (fun n => decide (n.nm = r.nm)) with
  | none => 5
  | some n => if rowF r.row n.loops.length ≠ 0 then rowF r.row n.loops.length else if numsF none r.nums ≠ 0 then numsF none r.nums else
    match prev.getLast? with
    | none => 0
    | some p => followF r.nm r.row p.nm p.row
def sceneF (cells : List CellD) (loops : List NestD) (bounds : List BoundD) (rows : List RowD) : Int :=
  if worldF cells loops ≠ 0 then worldF cells loops else if 20000 < bounds.length ∨ 20000 < rows.length then 2 else
  if firstF (boundF cells) [] bounds ≠ 0 then firstF (boundF cells) [] bounds else firstF (rowsF loops) [] rows
end Go.Proofs.YtcmccjcelchlhaaGreatDoor
namespace Go.Proofs.YtcmccjcelchlhaaGreatDoor
open Go.RowKit
attribute [local go_sem ↓] Go.wp_at_zero Go.wp_at_succ

set_option maxHeartbeats 1000000 in
theorem rowFault_any (row : List Int) (n : Nat) (A : Option Addr) (c B : Nat) (w : World) (hn : n ≤ maxLen) (hl : row.length ≤ maxLen) (hx : Reads w B 1 A row.length (numV .i64 row)) :
    Calls Tryz.prog 83 #[.slice A row.length c, .int .i64 (n : Nat)] w fun e w' => e = .returned (.int .i64 (rowF row n)) ∧ w = w' := by
  unfold maxLen at hl hn
  by_cases hne : row.length = n
  rotate_left
  · have HR := Lib.hid (show rowF row n = 3 by unfold rowF; rw [if_pos hne])
    have hne' : ((row.length : Int) != (n : Int)) = true := by simp; omega
    clear hne
    go_enter Tryz.func83, Tryz.ntmps83
    go_wp2
    go_ret
    exact ⟨ret_int (by rw [HR.out]), rfl⟩
  have HX := Lib.hid hx
  have HR := Lib.hid (show rowF row n = if row.any badCode = true then 1 else 0 by unfold rowF; rw [if_neg (fun h => h hne)])
  have hne' : ((row.length : Int) != (n : Int)) = false := by simp; omega
  clear hx
  have HNE := Lib.hid hne
  clear hne
  go_enter Tryz.func83, Tryz.ntmps83
  go_wp2
  go_loop [13, 6] (fun i _ => ∃ k : Nat, k ≤ row.length ∧ i = .int .i64 k ∧ Hid ((row.take k).any badCode = false)) (fun i _ => row.length - (intOf i).toNat)
  case atStart => exact ⟨0, Nat.zero_le _, rfl, Lib.hid rfl⟩
  case round =>
    obtain ⟨k, hk, rfl, HT⟩ := hrel
    by_cases hlt : k < row.length
    · obtain ⟨ad, rfl, -, hcell⟩ := HX.out.2 (by omega)
      have h1 : w.cell? (ad.add k) = some (.int .i64 row[k]) := hcell k _ (by rw [numV, List.getElem?_map, List.getElem?_eq_getElem hlt]; rfl)
      obtain ⟨x, hxe⟩ : ∃ x, row[k] = x := ⟨_, rfl⟩
      rw [hxe] at h1
      obtain ⟨b, hb⟩ : ∃ b, outB x 1 999 = b := ⟨_, rfl⟩
      have HH := Lib.hid (show badCode row[k] = b by rw [hxe]; exact hb)
      have HLT := Lib.hid hlt
      clear hxe hcell
      cases b
      · have HN := Lib.hid (any_step (p := badCode) HLT.out HH.out HT.out)
        go_wp2_with ((go_at_call 36; refine (outside_any _ _ _ _).mono ?_; rintro e w' ⟨rfl, rfl⟩))
        go_round
        case rel => exact ⟨k + 1, HLT.out, by go_num, HN⟩
        case measure =>
          have := HLT.out
          simp [intOf]
          omega
      · have HF := Lib.hid (show rowF row n = 1 by rw [HR.out, if_pos (any_hit (p := badCode) HLT.out HH.out)])
        go_wp2_with ((go_at_call 36; refine (outside_any _ _ _ _).mono ?_; rintro e w' ⟨rfl, rfl⟩))
        go_ret
        exact ⟨ret_int (by rw [HF.out]), rfl⟩
    · have HF := Lib.hid (show rowF row n = 0 by rw [HR.out, any_done (by omega) HT.out]; rfl)
      go_wp2
      go_ret
      exact ⟨ret_int (by rw [HF.out]), rfl⟩
set_option maxHeartbeats 1000000 in
theorem checkRow_any (row : List Int) (A2 : Option Addr) (n c2 : Nat) (A : Option Addr) (c B : Nat) (w : World) (hn : n ≤ maxLen) (hl : row.length ≤ maxLen) (hx : Reads w B 1 A row.length (numV .i64 row)) :
    Calls Tryz.prog 52 #[.slice A row.length c, .slice A2 n c2] w fun e w' => e = .returned (.int .i64 (rowF row n)) ∧ w = w' := by
  unfold maxLen at hl hn
  by_cases hne : row.length = n
  rotate_left
  · have HR := Lib.hid (show rowF row n = 3 by unfold rowF; rw [if_pos hne])
    have hne' : ((row.length : Int) != (n : Int)) = true := by simp; omega
    clear hne
    go_enter Tryz.func52, Tryz.ntmps52
    go_wp2
    go_ret
    exact ⟨ret_int (by rw [HR.out]), rfl⟩
  have HX := Lib.hid hx
  have HR := Lib.hid (show rowF row n = if row.any badCode = true then 1 else 0 by unfold rowF; rw [if_neg (fun h => h hne)])
  have hne' : ((row.length : Int) != (n : Int)) = false := by simp; omega
  clear hx
  have HNE := Lib.hid hne
  clear hne
  go_enter Tryz.func52, Tryz.ntmps52
  go_wp2
  go_loop [14, 6] (fun i _ => ∃ k : Nat, k ≤ row.length ∧ i = .int .i64 k ∧ Hid ((row.take k).any badCode = false)) (fun i _ => row.length - (intOf i).toNat)
  case atStart => exact ⟨0, Nat.zero_le _, rfl, Lib.hid rfl⟩
  case round =>
    obtain ⟨k, hk, rfl, HT⟩ := hrel
    by_cases hlt : k < row.length
    · obtain ⟨ad, rfl, -, hcell⟩ := HX.out.2 (by omega)
      have h1 : w.cell? (ad.add k) = some (.int .i64 row[k]) := hcell k _ (by rw [numV, List.getElem?_map, List.getElem?_eq_getElem hlt]; rfl)
      obtain ⟨x, hxe⟩ : ∃ x, row[k] = x := ⟨_, rfl⟩
      rw [hxe] at h1
      obtain ⟨b, hb⟩ : ∃ b, outB x 1 999 = b := ⟨_, rfl⟩
      have HH := Lib.hid (show badCode row[k] = b by rw [hxe]; exact hb)
      have HLT := Lib.hid hlt
      clear hxe hcell
      cases b
      · have HN := Lib.hid (any_step (p := badCode) HLT.out HH.out HT.out)
        go_wp2_with ((go_at_call 44; refine (within_any _ _ _ _).mono ?_; rintro e w' ⟨rfl, rfl⟩))
        go_round
        case rel => exact ⟨k + 1, HLT.out, by go_num, HN⟩
        case measure =>
          have := HLT.out
          simp [intOf]
          omega
      · have HF := Lib.hid (show rowF row n = 1 by rw [HR.out, if_pos (any_hit (p := badCode) HLT.out HH.out)])
        go_wp2_with ((go_at_call 44; refine (within_any _ _ _ _).mono ?_; rintro e w' ⟨rfl, rfl⟩))
        go_ret
        exact ⟨ret_int (by rw [HF.out]), rfl⟩
    · have HF := Lib.hid (show rowF row n = 0 by rw [HR.out, any_done (by omega) HT.out]; rfl)
      go_wp2
      go_ret
      exact ⟨ret_int (by rw [HF.out]), rfl⟩
set_option maxHeartbeats 1000000 in
theorem follows_any (nm nm' : ByteArray) (row row' : List Int) (A A' : Option Addr) (c c' B : Nat) (w : World) (hl : row.length ≤ maxLen) (hl' : row'.length ≤ maxLen) (hx : Reads w B 1 A row.length (numV .i64 row)) (hy : Reads w B 1 A' row'.length (numV .i64 row')) (hB : B ≤ w.heap.size) :
    Calls Tryz.prog 85 #[.string nm, .slice A row.length c, .string nm', .slice A' row'.length c'] w fun e w' => e = .returned (.int .i64 (followF nm row nm' row')) ∧ Below w.heap.size w w' := by
  have HC := Lib.hid (compareInts_any A A' row.length c row'.length c' B B row row' w hl hl' hx hy hB hB)
  have HFE := Lib.hid (show followF nm row nm' row' = followF nm row nm' row' from rfl)
  clear hl hl' hx hy hB
  obtain ⟨z, hz⟩ : ∃ z, cmpN nm row nm' row' = z := ⟨_, rfl⟩
  have hr : z = -1 ∨ z = 0 ∨ z = 1 := hz ▸ cmpN_range _ _ _ _
  obtain ⟨y, hy⟩ : ∃ y, Lib.compareBytes nm.data.toList nm'.data.toList = y := ⟨_, rfl⟩
  have HY := Lib.hid hy
  have HZ := Lib.hid hz
  by_cases h0 : y = 0
  · subst h0
    have hz2 : cmpL row row' = z := by rw [← hz]; unfold cmpN; rw [if_pos hy]
    rw [hz2] at HC
    clear hy hz hz2
    rcases hr with rfl | rfl | rfl
    · have HF := Lib.hid (show followF nm row nm' row' = 7 from HFE.out.trans (by unfold followF; rw [HZ.out]; rfl))
      go_enter Tryz.func85, Tryz.ntmps85
      go_wp2_with (go_at_call 91; refine (Tryz.strings_Compare _ _ _).mono ?_; rw [HY.out]; rintro e w' ⟨rfl, rfl⟩)
      refine HC.out.mono ?_
      rintro en w1 ⟨rfl, hb⟩
      go_wp2
      go_ret
      exact ⟨ret_int (by rw [HF.out]), hb⟩
    · have HF := Lib.hid (show followF nm row nm' row' = 6 from HFE.out.trans (by unfold followF; rw [HZ.out]; rfl))
      go_enter Tryz.func85, Tryz.ntmps85
      go_wp2_with (go_at_call 91; refine (Tryz.strings_Compare _ _ _).mono ?_; rw [HY.out]; rintro e w' ⟨rfl, rfl⟩)
      refine HC.out.mono ?_
      rintro en w1 ⟨rfl, hb⟩
      go_wp2
      go_ret
      exact ⟨ret_int (by rw [HF.out]), hb⟩
    · have HF := Lib.hid (show followF nm row nm' row' = 0 from HFE.out.trans (by unfold followF; rw [HZ.out]; rfl))
      go_enter Tryz.func85, Tryz.ntmps85
      go_wp2_with (go_at_call 91; refine (Tryz.strings_Compare _ _ _).mono ?_; rw [HY.out]; rintro e w' ⟨rfl, rfl⟩)
      refine HC.out.mono ?_
      rintro en w1 ⟨rfl, hb⟩
      go_wp2
      go_ret
      exact ⟨ret_int (by rw [HF.out]), hb⟩
  · have hyz : y = z := by rw [← hz, ← hy]; unfold cmpN; rw [if_neg (by rw [hy]; exact h0)]
    subst hyz
    clear hy hz HC
    rcases hr with rfl | rfl | rfl
    · have HF := Lib.hid (show followF nm row nm' row' = 7 from HFE.out.trans (by unfold followF; rw [HZ.out]; rfl))
      go_enter Tryz.func85, Tryz.ntmps85
      go_wp2_with (go_at_call 91; refine (Tryz.strings_Compare _ _ _).mono ?_; rw [HY.out]; rintro e w' ⟨rfl, rfl⟩)
      go_ret
      exact ⟨ret_int (by rw [HF.out]), Below.refl _ _⟩
    · exact absurd rfl h0
    · have HF := Lib.hid (show followF nm row nm' row' = 0 from HFE.out.trans (by unfold followF; rw [HZ.out]; rfl))
      go_enter Tryz.func85, Tryz.ntmps85
      go_wp2_with (go_at_call 91; refine (Tryz.strings_Compare _ _ _).mono ?_; rw [HY.out]; rintro e w' ⟨rfl, rfl⟩)
      go_ret
      exact ⟨ret_int (by rw [HF.out]), Below.refl _ _⟩
set_option maxHeartbeats 1000000 in
theorem behind_any (nm nm' : ByteArray) (row row' : List Int) (A A' : Option Addr) (c c' B : Nat) (w : World) (hl : row.length ≤ maxLen) (hl' : row'.length ≤ maxLen) (hx : Reads w B 1 A row.length (numV .i64 row)) (hy : Reads w B 1 A' row'.length (numV .i64 row')) (hB : B ≤ w.heap.size) :
    Calls Tryz.prog 54 #[.string nm, .slice A row.length c, .string nm', .slice A' row'.length c'] w fun e w' => e = .returned (.int .i64 (followF nm row nm' row')) ∧ Below w.heap.size w w' := by
  have HC := Lib.hid (lists_any A' A row'.length c' row.length c B B row' row w hl' hl hy hx hB hB)
  have HFE := Lib.hid (show followF nm row nm' row' = behindF nm row nm' row' from (behind_eq _ _ _ _).symm)
  clear hl hl' hx hy hB
  obtain ⟨z, hz⟩ : ∃ z, cmpN nm' row' nm row = z := ⟨_, rfl⟩
  have hr : z = -1 ∨ z = 0 ∨ z = 1 := hz ▸ cmpN_range _ _ _ _
  obtain ⟨y, hy⟩ : ∃ y, Lib.compareBytes nm'.data.toList nm.data.toList = y := ⟨_, rfl⟩
  have HY := Lib.hid hy
  have HZ := Lib.hid hz
  by_cases h0 : y = 0
  · subst h0
    have hz2 : cmpL row' row = z := by rw [← hz]; unfold cmpN; rw [if_pos hy]
    rw [hz2] at HC
    clear hy hz hz2
    rcases hr with rfl | rfl | rfl
    · have HF := Lib.hid (show followF nm row nm' row' = 0 from HFE.out.trans (by unfold behindF; rw [HZ.out]; rfl))
      go_enter Tryz.func54, Tryz.ntmps54
      go_wp2_with (go_at_call 91; refine (Tryz.strings_Compare _ _ _).mono ?_; rw [HY.out]; rintro e w' ⟨rfl, rfl⟩)
      refine HC.out.mono ?_
      rintro en w1 ⟨rfl, hb⟩
      go_wp2
      go_ret
      exact ⟨ret_int (by rw [HF.out]), hb⟩
    · have HF := Lib.hid (show followF nm row nm' row' = 6 from HFE.out.trans (by unfold behindF; rw [HZ.out]; rfl))
      go_enter Tryz.func54, Tryz.ntmps54
      go_wp2_with (go_at_call 91; refine (Tryz.strings_Compare _ _ _).mono ?_; rw [HY.out]; rintro e w' ⟨rfl, rfl⟩)
      refine HC.out.mono ?_
      rintro en w1 ⟨rfl, hb⟩
      go_wp2
      go_ret
      exact ⟨ret_int (by rw [HF.out]), hb⟩
    · have HF := Lib.hid (show followF nm row nm' row' = 7 from HFE.out.trans (by unfold behindF; rw [HZ.out]; rfl))
      go_enter Tryz.func54, Tryz.ntmps54
      go_wp2_with (go_at_call 91; refine (Tryz.strings_Compare _ _ _).mono ?_; rw [HY.out]; rintro e w' ⟨rfl, rfl⟩)
      refine HC.out.mono ?_
      rintro en w1 ⟨rfl, hb⟩
      go_wp2
      go_ret
      exact ⟨ret_int (by rw [HF.out]), hb⟩
  · have hyz : y = z := by rw [← hz, ← hy]; unfold cmpN; rw [if_neg (by rw [hy]; exact h0)]
    subst hyz
    clear hy hz HC
    rcases hr with rfl | rfl | rfl
    · have HF := Lib.hid (show followF nm row nm' row' = 0 from HFE.out.trans (by unfold behindF; rw [HZ.out]; rfl))
      go_enter Tryz.func54, Tryz.ntmps54
      go_wp2_with (go_at_call 91; refine (Tryz.strings_Compare _ _ _).mono ?_; rw [HY.out]; rintro e w' ⟨rfl, rfl⟩)
      go_ret
      exact ⟨ret_int (by rw [HF.out]), Below.refl _ _⟩
    · exact absurd rfl h0
    · have HF := Lib.hid (show followF nm row nm' row' = 7 from HFE.out.trans (by unfold behindF; rw [HZ.out]; rfl))
      go_enter Tryz.func54, Tryz.ntmps54
      go_wp2_with (go_at_call 91; refine (Tryz.strings_Compare _ _ _).mono ?_; rw [HY.out]; rintro e w' ⟨rfl, rfl⟩)
      go_ret
      exact ⟨ret_int (by rw [HF.out]), Below.refl _ _⟩
end Go.Proofs.YtcmccjcelchlhaaGreatDoor
