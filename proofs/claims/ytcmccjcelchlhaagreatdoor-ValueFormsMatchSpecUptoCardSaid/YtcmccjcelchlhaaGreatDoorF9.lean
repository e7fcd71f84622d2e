/- The walks of row, within, joined. · Sorting and compacting an own row of texts. · append of a nil slice to an own row: nothing turns. · The walk of the reference's Names. -/
import Derived.Test.YtcmccjcelchlhaaGreatDoorF7
import Derived.Test.YtcmccjcelchlhaaGreatDoorF8
import Derived.Deep.DrawnRows
import Derived.Test.YtcmccjcelchlhaaGreatDoorF1
import Derived.Test.YtcmccjcelchlhaaGreatDoorBase
import Derived.Laws.AppendOwn
namespace Go.Proofs.YtcmccjcelchlhaaGreatDoor
open Go.RowKit
attribute [local go_sem ↓] Go.wp_at_zero Go.wp_at_succ

theorem tx_cat (a b : List UInt8) : tx a ++ tx b = tx (a ++ b) := by
  unfold tx
  exact ByteArray.ext (by rw [ByteArray.data_append]; simp)
theorem tx_size (l : List UInt8) : (tx l).size = l.length := by unfold tx; simp [ByteArray.size]
theorem tx_data (l : List UInt8) : (tx l).data.toList = l := by unfold tx; simp
theorem exs_at {w : World} {B : Nat} {ar : List Ex} {A' : Option Addr} {cs : List Value} (hr : Reads w B 8 A' ar.length cs) (hi : ∀ i (h : i < ar.length), ExAt w B ar[i] ((cs.drop (i * 8)).take 8)) {i : Nat} (h : i < ar.length) :
    ∃ ad ci, A' = some ad ∧ ad.block < B ∧ ExAt w B ar[i] ci ∧ ∀ j u, ci[j]? = some u → w.cell? ((ad.add (i * 8)).add j) = some u := ExAt.arg (e := .mk 0 0 ⟨#[]⟩ ⟨0, 0, ⟨#[]⟩, []⟩ ar) hr hi h
theorem tx_of {t : ByteArray} {l : List UInt8} (h : t.data.toList = l) : t = tx l := by
  unfold tx
  rw [← h]
set_option maxHeartbeats 2000000 in
theorem row_any (e : Ex) (B : Nat) (cs : List Value) (w : World) (hx : ExAt w B e cs) : Calls Tryz.prog 57 #[.agg cs.toArray] w fun en w' => en = .returned (.int .i64 (rowN e)) ∧ Below w.heap.size w w' := by
  obtain ⟨hn, hs, hl, ha, hx, hr, hi⟩ := hx
  rename_i A1 c1 A2 c2 cs
  clear hx hr hi
  obtain ⟨r, hr⟩ : ∃ r, rowN e = r := ⟨_, rfl⟩
  have HR := Lib.hid hr
  rw [hr]
  show Calls Tryz.prog 57 #[.agg #[.int .i64 e.k, .int .i64 e.op, .string e.nm, .int .i64 e.v.k, .int .i64 e.v.n, .string e.v.s, .slice A1 e.v.l.length c1, .slice A2 e.ar.length c2]] w _
  obtain ⟨k, hk⟩ : ∃ k, e.k = k := ⟨_, rfl⟩
  obtain ⟨op, hop⟩ : ∃ k, e.op = k := ⟨_, rfl⟩
  obtain ⟨vk, hvk⟩ : ∃ k, e.v.k = k := ⟨_, rfl⟩
  obtain ⟨vn, hvn⟩ : ∃ k, e.v.n = k := ⟨_, rfl⟩
  rw [hk, hop, hvk, hvn]
  unfold rowN at hr
  rw [hk, hop, hvk, hvn] at hr
  clear hk hop hvk hvn HR
  by_cases k1 : k = 1
  · subst k1
    by_cases k2 : vk = 2
    · subst k2
      by_cases k3 : vn < 0
      · have e0 : r = 7 := by rw [← hr]; simp; try omega
        subst e0
        clear hr
        go_enter Tryz.func57, Tryz.ntmps57
        go_wp2
        go_ret
        exact ⟨ret_int rfl, (Below.refl _ _).alloc (Nat.le_refl _) _⟩
      · have e0 : r = 8 := by rw [← hr, if_neg (by omega), if_pos (by decide)]
        subst e0
        clear hr
        go_enter Tryz.func57, Tryz.ntmps57
        go_wp2
        go_ret
        exact ⟨ret_int rfl, (Below.refl _ _).alloc (Nat.le_refl _) _⟩
    · have bv : (vk == 2) = false := by simp; omega
      have e0 : r = 8 := by rw [← hr, if_neg (by omega), if_pos (by decide)]
      subst e0
      clear hr k2
      go_enter Tryz.func57, Tryz.ntmps57
      go_wp2
      go_ret
      exact ⟨ret_int rfl, (Below.refl _ _).alloc (Nat.le_refl _) _⟩
  by_cases k4 : k = 4
  rotate_left
  · have bk1 : (k == 1) = false := by simp; omega
    have bk4 : (k != 4) = true := by simp; omega
    have e0 : r = 8 := by rw [← hr, if_neg (by omega), if_pos k4]
    subst e0
    clear hr k1 k4
    go_enter Tryz.func57, Tryz.ntmps57
    go_wp2
    go_ret
    exact ⟨ret_int rfl, (Below.refl _ _).alloc (Nat.le_refl _) _⟩
  subst k4
  clear k1
  rw [if_neg (by omega), if_neg (by decide)] at hr
  by_cases o3 : op = 3
  · subst o3
    have e0 : r = 1 := by rw [← hr]; decide
    subst e0
    clear hr
    go_enter Tryz.func57, Tryz.ntmps57
    go_wp2
    go_ret
    exact ⟨ret_int rfl, (Below.refl _ _).alloc (Nat.le_refl _) _⟩
  by_cases o2 : op = 2
  · subst o2
    have e0 : r = 2 := by rw [← hr]; decide
    subst e0
    clear hr
    go_enter Tryz.func57, Tryz.ntmps57
    go_wp2
    go_ret
    exact ⟨ret_int rfl, (Below.refl _ _).alloc (Nat.le_refl _) _⟩
  by_cases o1 : op = 1
  · subst o1
    have e0 : r = 3 := by rw [← hr]; decide
    subst e0
    clear hr
    go_enter Tryz.func57, Tryz.ntmps57
    go_wp2
    go_ret
    exact ⟨ret_int rfl, (Below.refl _ _).alloc (Nat.le_refl _) _⟩
  rw [if_neg o3, if_neg o2, if_neg o1] at hr
  have bop3 : (op == 3) = false := by simp; omega
  have bop2 : (op == 2) = false := by simp; omega
  have bop1 : (op == 1) = false := by simp; omega
  clear o1 o2 o3
  by_cases q1 : 4 ≤ op
  rotate_left
  · have bop15 : (op == 15) = false := by simp; omega
    have bop16 : (op == 16) = false := by simp; omega
    have bop17 : (op == 17) = false := by simp; omega
    have bop18 : (op == 18) = false := by simp; omega
    have bop19 : (op == 19) = false := by simp; omega
    have bop20 : (op == 20) = false := by simp; omega
    have e0 : r = 8 := by rw [← hr, if_neg (by omega), if_neg (by omega), if_neg (by omega), if_neg (by omega)]
    subst e0
    clear hr
    go_enter Tryz.func57, Tryz.ntmps57
    go_wp2
    go_ret
    exact ⟨ret_int rfl, (Below.refl _ _).alloc (Nat.le_refl _) _⟩
  by_cases q2 : op ≤ 11
  · have e0 : r = 4 := by rw [← hr, if_pos ⟨q1, q2⟩]
    subst e0
    clear hr
    go_enter Tryz.func57, Tryz.ntmps57
    go_wp2
    go_ret
    exact ⟨ret_int rfl, (Below.refl _ _).alloc (Nat.le_refl _) _⟩
  rw [if_neg (by omega)] at hr
  by_cases o15 : op = 15
  · subst o15
    have e0 : r = 5 := by rw [← hr]; decide
    subst e0
    clear hr bop1 bop2 bop3
    go_enter Tryz.func57, Tryz.ntmps57
    go_wp2
    go_ret
    exact ⟨ret_int rfl, (Below.refl _ _).alloc (Nat.le_refl _) _⟩
  by_cases o16 : op = 16
  · subst o16
    have e0 : r = 5 := by rw [← hr]; decide
    subst e0
    clear hr bop1 bop2 bop3
    go_enter Tryz.func57, Tryz.ntmps57
    go_wp2
    go_ret
    exact ⟨ret_int rfl, (Below.refl _ _).alloc (Nat.le_refl _) _⟩
  by_cases o17 : op = 17
  · subst o17
    have e0 : r = 6 := by rw [← hr]; decide
    subst e0
    clear hr bop1 bop2 bop3
    go_enter Tryz.func57, Tryz.ntmps57
    go_wp2
    go_ret
    exact ⟨ret_int rfl, (Below.refl _ _).alloc (Nat.le_refl _) _⟩
  by_cases o18 : op = 18
  · subst o18
    have e0 : r = 6 := by rw [← hr]; decide
    subst e0
    clear hr bop1 bop2 bop3
    go_enter Tryz.func57, Tryz.ntmps57
    go_wp2
    go_ret
    exact ⟨ret_int rfl, (Below.refl _ _).alloc (Nat.le_refl _) _⟩
  by_cases o19 : op = 19
  · subst o19
    have e0 : r = 6 := by rw [← hr]; decide
    subst e0
    clear hr bop1 bop2 bop3
    go_enter Tryz.func57, Tryz.ntmps57
    go_wp2
    go_ret
    exact ⟨ret_int rfl, (Below.refl _ _).alloc (Nat.le_refl _) _⟩
  by_cases o20 : op = 20
  · subst o20
    have e0 : r = 7 := by rw [← hr]; decide
    subst e0
    clear hr bop1 bop2 bop3
    go_enter Tryz.func57, Tryz.ntmps57
    go_wp2
    go_ret
    exact ⟨ret_int rfl, (Below.refl _ _).alloc (Nat.le_refl _) _⟩
  have bop15 : (op == 15) = false := by simp; omega
  have bop16 : (op == 16) = false := by simp; omega
  have bop17 : (op == 17) = false := by simp; omega
  have bop18 : (op == 18) = false := by simp; omega
  have bop19 : (op == 19) = false := by simp; omega
  have bop20 : (op == 20) = false := by simp; omega
  have e0 : r = 8 := by rw [← hr, if_neg (by omega), if_neg (by omega), if_neg (by omega)]
  subst e0
  clear hr o15 o16 o17 o18 o19 o20
  go_enter Tryz.func57, Tryz.ntmps57
  go_wp2
  go_ret
  exact ⟨ret_int rfl, (Below.refl _ _).alloc (Nat.le_refl _) _⟩
/-- the text of an expression, wherever it lies -/
def TextSpec (F : FuncId) (e : Ex) : Prop := ∀ (B : Nat) (cs : List Value) (w : World), ExAt w B e cs → B ≤ w.heap.size → Tab w → Mx w → Calls Tryz.prog F #[.agg cs.toArray] w fun en w' => en = .returned (.string (tx (e.text))) ∧ Below w.heap.size w w'
theorem par_yes {b : Bool} (t : List UInt8) (h : b = true) : tx (parT b t) = tx [40] ++ tx t ++ tx [41] := by rw [h, tx_cat, tx_cat]; rfl
theorem par_no {b : Bool} (t : List UInt8) (h : b = false) : tx (parT b t) = tx t := by rw [h]; rfl
set_option maxHeartbeats 1000000 in
theorem within_of (e : Ex) (least : Int) (hT : TextSpec 25 e) (hl9 : e.text.length ≤ 1000000000) (B : Nat) (cs : List Value) (w : World) (hx : ExAt w B e cs) (hB : B ≤ w.heap.size) (htab : Tab w) (hm : Mx w) :
    Calls Tryz.prog 59 #[.agg cs.toArray, .int .i64 least] w fun en w' => en = .returned (.string (tx (parT (decide (rowN e < least)) e.text))) ∧ Below w.heap.size w w' := by
  have HX := Lib.hid hx
  have HT := Lib.hid (fun w' (hb : Below w.heap.size w w') cs' (hx' : ExAt w' B e cs') => hT B cs' w' hx' (Nat.le_trans hB hb.size) (tabIs_below htab hb) (hm.below hb))
  have HRW := Lib.hid (fun w' cs' (hx' : ExAt w' B e cs') => row_any e B cs' w' hx')
  obtain ⟨hn, hs, hl, ha, hx, hr, hi⟩ := hx
  rename_i A1 c1 A2 c2 cs
  have HXX := Lib.hid (fun w' (hb : Below w.heap.size w w') => HX.out.keep (hb.mono hB))
  obtain ⟨r, hrr⟩ : ∃ r, rowN e = r := ⟨_, rfl⟩
  obtain ⟨t, htt⟩ : ∃ t, tx e.text = t := ⟨_, rfl⟩
  have hts : t.size ≤ 1000000000 := by rw [← htt, tx_size]; exact hl9
  have HTT := Lib.hid htt
  have HRR := Lib.hid hrr
  clear hx hr hi hT htab hm
  show Calls Tryz.prog 59 #[.agg #[.int .i64 e.k, .int .i64 e.op, .string e.nm, .int .i64 e.v.k, .int .i64 e.v.n, .string e.v.s, .slice A1 e.v.l.length c1, .slice A2 e.ar.length c2], .int .i64 least] w _
  go_enter Tryz.func59, Tryz.ntmps59
  go_upto_region 1 with (fail)
  obtain ⟨W, hW⟩ : ∃ W, W = (w.alloc (.cells #[.int .i64 e.k, .int .i64 e.op, .string e.nm, .int .i64 e.v.k, .int .i64 e.v.n, .string e.v.s, .slice A1 e.v.l.length c1, .slice A2 e.ar.length c2] 27 (0, 0))) := ⟨_, rfl⟩
  have hbw : Below w.heap.size w W := by rw [hW]; exact ((Below.refl _ w).alloc (Nat.le_refl _) _)
  have B0 : Blk W (w.heap.size) 27 #[.int .i64 e.k, .int .i64 e.op, .string e.nm, .int .i64 e.v.k, .int .i64 e.v.n, .string e.v.s, .slice A1 e.v.l.length c1, .slice A2 e.ar.length c2] := by
    rw [hW]
    have := Blk.new w 27 #[.int .i64 e.k, .int .i64 e.op, .string e.nm, .int .i64 e.v.k, .int .i64 e.v.n, .string e.v.s, .slice A1 e.v.l.length c1, .slice A2 e.ar.length c2]
    exact this
  have hsz : W.heap.size = w.heap.size + 1 := by rw [hW]; simp
  rw [← hW]
  have ec0 : W.cell? ⟨w.heap.size, 0, none⟩ = some (.int .i64 e.k) := B0.cell 0
  have ec1 : W.cell? ⟨w.heap.size, 1, none⟩ = some (.int .i64 e.op) := B0.cell 1
  have ec2 : W.cell? ⟨w.heap.size, 2, none⟩ = some (.string e.nm) := B0.cell 2
  have ec3 : W.cell? ⟨w.heap.size, 3, none⟩ = some (.int .i64 e.v.k) := B0.cell 3
  have ec4 : W.cell? ⟨w.heap.size, 4, none⟩ = some (.int .i64 e.v.n) := B0.cell 4
  have ec5 : W.cell? ⟨w.heap.size, 5, none⟩ = some (.string e.v.s) := B0.cell 5
  have ec6 : W.cell? ⟨w.heap.size, 6, none⟩ = some (.slice A1 e.v.l.length c1) := B0.cell 6
  have ec7 : W.cell? ⟨w.heap.size, 7, none⟩ = some (.slice A2 e.ar.length c2) := B0.cell 7
  clear hW hsz
  go_wp2_with fail
  refine (HRW.out W _ (HXX.out W hbw)).mono ?_
  rw [hrr]
  rintro en W1 ⟨rfl, hb1⟩
  have hbw1 := hbw.trans (hb1.mono hbw.size)
  have B0 := B0.below hb1 B0.lt
  clear ec0 ec1 ec2 ec3 ec4 ec5 ec6 ec7 hb1 hrr
  have ec0 : W1.cell? ⟨w.heap.size, 0, none⟩ = some (.int .i64 e.k) := B0.cell 0
  have ec1 : W1.cell? ⟨w.heap.size, 1, none⟩ = some (.int .i64 e.op) := B0.cell 1
  have ec2 : W1.cell? ⟨w.heap.size, 2, none⟩ = some (.string e.nm) := B0.cell 2
  have ec3 : W1.cell? ⟨w.heap.size, 3, none⟩ = some (.int .i64 e.v.k) := B0.cell 3
  have ec4 : W1.cell? ⟨w.heap.size, 4, none⟩ = some (.int .i64 e.v.n) := B0.cell 4
  have ec5 : W1.cell? ⟨w.heap.size, 5, none⟩ = some (.string e.v.s) := B0.cell 5
  have ec6 : W1.cell? ⟨w.heap.size, 6, none⟩ = some (.slice A1 e.v.l.length c1) := B0.cell 6
  have ec7 : W1.cell? ⟨w.heap.size, 7, none⟩ = some (.slice A2 e.ar.length c2) := B0.cell 7
  by_cases hlt : r < least
  · have HP := Lib.hid (par_yes e.text (show decide (rowN e < least) = true by rw [HRR.out]; exact decide_eq_true hlt))
    go_wp2_with fail
    refine (HT.out W1 hbw1 _ (HXX.out W1 hbw1)).mono ?_
    rw [htt]
    rintro en W2 ⟨rfl, hb2⟩
    clear ec0 ec1 ec2 ec3 ec4 ec5 ec6 ec7 htt
    go_wp2_with fail
    go_ret
    exact ⟨by rw [HP.out, HTT.out]; try rfl, hbw1.trans (hb2.mono hbw1.size)⟩
  · have HP := Lib.hid (par_no e.text (show decide (rowN e < least) = false by rw [HRR.out]; exact decide_eq_false hlt))
    go_wp2_with fail
    refine (HT.out W1 hbw1 _ (HXX.out W1 hbw1)).mono ?_
    rw [htt]
    rintro en W2 ⟨rfl, hb2⟩
    clear ec0 ec1 ec2 ec3 ec4 ec5 ec6 ec7 htt
    go_wp2_with fail
    go_ret
    exact ⟨by rw [HP.out, HTT.out]; try rfl, hbw1.trans (hb2.mono hbw1.size)⟩
theorem infoStr : (Tryz.prog.info? 9).map (fun i => (i.zero, i.size, i.bytes)) = some (some (.string ByteArray.empty), 1, 16) := by kernel_rfl
set_option maxHeartbeats 2000000 in
set_option maxRecDepth 100000 in
theorem joined_of (ar : List Ex) (sep : List UInt8) (least : Int) (hT : ∀ a ∈ ar, TextSpec 25 a) (h9 : ∀ a ∈ ar, a.text.length ≤ 1000000000) (hal : ar.length ≤ 1000000) (hj : (Lib.join (insL least ar) sep).length ≤ 1000000000) (A' : Option Addr) (c' B : Nat) (cs : List Value) (w : World) (hr : Reads w B 8 A' ar.length cs) (hi : ∀ i (h : i < ar.length), ExAt w B ar[i] ((cs.drop (i * 8)).take 8)) (hB : B ≤ w.heap.size) (htab : Tab w) (hm : Mx w) :
    Calls Tryz.prog 58 #[.slice A' ar.length c', .string (tx sep), .int .i64 least] w fun en w' => en = .returned (.string (tx (Lib.join (insL least ar) sep))) ∧ Below w.heap.size w w' := by
  have HR := Lib.hid (And.intro hr hi)
  have HJ := Lib.hid hj
  have HTM := Lib.hid (And.intro htab hm)
  have HW := Lib.hid (fun a (ha : a ∈ ar) cs' w' (hx' : ExAt w' B a cs') (hb : Below w.heap.size w w') => within_of a least (hT a ha) (h9 a ha) B cs' w' hx' (Nat.le_trans hB hb.size) (tabIs_below htab hb) (hm.below hb))
  obtain ⟨i0, hi0, hz0, hz1, hz2⟩ := info_parts infoStr
  have HLL := Lib.hid (insL_map least ar)
  clear hr hi htab hm hT h9
  go_enter Tryz.func58, Tryz.ntmps58
  go_wp2_with fail
  have hbr : Below w.heap.size w w := Below.refl _ _
  go_loopw [12, 7] (fun i v wr => ∃ (k : Nat) (u : Value), k ≤ ar.length ∧ i = .int .i64 k ∧ v = u ∧ Hid (wr.ownsRow w.heap.size 9 1 u k ((((insL least ar).take k).map tx).map Value.string)) ∧ Below w.heap.size w wr) (fun i _ _ => ar.length - (intOf i).toNat)
  case atStart => exact ⟨0, _, Nat.zero_le _, rfl, rfl, Lib.hid (World.ownsRow_nil _ _ _ _), hbr⟩
  case round =>
    obtain ⟨k, u, hk, rfl, rfl, HO, hbr⟩ := hrel
    have hsr := hbr.size
    have hBr := hbr.mono hB
    by_cases hlt : k < ar.length
    · obtain ⟨ad, ci, rfl, hb, hci, hcell⟩ := exs_at (HR.out.1.below hBr) (fun i h => (HR.out.2 i h).keep hBr) hlt
      obtain ⟨a, hea⟩ : ∃ a, ar[k] = a := ⟨_, rfl⟩
      have ham : a ∈ ar := by rw [← hea]; exact List.getElem_mem hlt
      have hstep : (insL least ar).take (k + 1) = (insL least ar).take k ++ [parT (decide (rowN a < least)) a.text] := by
        have hlk : k < (insL least ar).length := by rw [ins_len]; exact hlt
        rw [List.take_succ_eq_append_getElem hlk]
        congr 2
        simp only [HLL.out, List.getElem_map, hea]
      have HST := Lib.hid hstep
      have HLT := Lib.hid hlt
      rw [hea] at hci
      have HWA := Lib.hid (HW.out a ham)
      have HCI := Lib.hid hci
      obtain ⟨hn1, hs1, hl1, ha1, hx1, hr1, hi1⟩ := hci
      rename_i A3 c3 A4 c4 cs1
      obtain ⟨t, htt⟩ : ∃ t, tx (parT (decide (rowN a < least)) a.text) = t := ⟨_, rfl⟩
      have HTT := Lib.hid htt
      have fc0 : wr.cell? (ad.add (k * 8)) = some (.int .i64 a.k) := hcell 0 _ rfl
      have fc1 : wr.cell? ⟨(ad.add (k * 8)).block, (ad.add (k * 8)).off + 1, none⟩ = some (.int .i64 a.op) := hcell 1 _ rfl
      have fc2 : wr.cell? ⟨(ad.add (k * 8)).block, (ad.add (k * 8)).off + 2, none⟩ = some (.string a.nm) := hcell 2 _ rfl
      have fc3 : wr.cell? ⟨(ad.add (k * 8)).block, (ad.add (k * 8)).off + 3, none⟩ = some (.int .i64 a.v.k) := hcell 3 _ rfl
      have fc4 : wr.cell? ⟨(ad.add (k * 8)).block, (ad.add (k * 8)).off + 4, none⟩ = some (.int .i64 a.v.n) := hcell 4 _ rfl
      have fc5 : wr.cell? ⟨(ad.add (k * 8)).block, (ad.add (k * 8)).off + 5, none⟩ = some (.string a.v.s) := hcell 5 _ rfl
      have fc6 : wr.cell? ⟨(ad.add (k * 8)).block, (ad.add (k * 8)).off + 6, none⟩ = some (.slice A3 a.v.l.length c3) := hcell 6 _ rfl
      have fc7 : wr.cell? ⟨(ad.add (k * 8)).block, (ad.add (k * 8)).off + 7, none⟩ = some (.slice A4 a.ar.length c4) := hcell 7 _ rfl
      clear hx1 hr1 hi1 hcell hea ham hstep hb
      go_upto_region 5 with (fail)
      obtain ⟨W3, hW3⟩ : ∃ W3, W3 = wr.alloc (.cells #[.int .i64 a.k, .int .i64 a.op, .string a.nm, .int .i64 a.v.k, .int .i64 a.v.n, .string a.v.s, .slice A3 a.v.l.length c3, .slice A4 a.ar.length c4] 27 (0, 0)) := ⟨_, rfl⟩
      have hb3 : Below wr.heap.size wr W3 := hW3 ▸ (Below.refl _ wr).alloc (Nat.le_refl _) _
      have B3 : Blk W3 wr.heap.size 27 #[.int .i64 a.k, .int .i64 a.op, .string a.nm, .int .i64 a.v.k, .int .i64 a.v.n, .string a.v.s, .slice A3 a.v.l.length c3, .slice A4 a.ar.length c4] := hW3 ▸ Blk.new wr _ _
      have HO3 := Lib.hid (show W3.ownsRow w.heap.size 9 1 _ k _ from hW3 ▸ HO.out.alloc _)
      rw [← hW3]
      clear hW3 fc0 fc1 fc2 fc3 fc4 fc5 fc6 fc7
      have hr3 := hbr.trans (hb3.mono hsr)
      have gc0 : W3.cell? ⟨wr.heap.size, 0, none⟩ = some (.int .i64 a.k) := B3.cell 0
      have gc1 : W3.cell? ⟨wr.heap.size, 1, none⟩ = some (.int .i64 a.op) := B3.cell 1
      have gc2 : W3.cell? ⟨wr.heap.size, 2, none⟩ = some (.string a.nm) := B3.cell 2
      have gc3 : W3.cell? ⟨wr.heap.size, 3, none⟩ = some (.int .i64 a.v.k) := B3.cell 3
      have gc4 : W3.cell? ⟨wr.heap.size, 4, none⟩ = some (.int .i64 a.v.n) := B3.cell 4
      have gc5 : W3.cell? ⟨wr.heap.size, 5, none⟩ = some (.string a.v.s) := B3.cell 5
      have gc6 : W3.cell? ⟨wr.heap.size, 6, none⟩ = some (.slice A3 a.v.l.length c3) := B3.cell 6
      have gc7 : W3.cell? ⟨wr.heap.size, 7, none⟩ = some (.slice A4 a.ar.length c4) := B3.cell 7
      go_wp2_with fail
      refine (HWA.out _ W3 (HCI.out.keep (hb3.mono (Nat.le_trans hB hsr))) hr3).mono ?_
      rw [htt]
      rintro en w4 ⟨rfl, hb4⟩
      have hr4 := hr3.trans (hb4.mono hr3.size)
      have HO4 := Lib.hid (own_below HO3.out hb4)
      obtain ⟨xs, hxs⟩ : ∃ xs : List Value, (((insL least ar).take k).map tx).map Value.string = xs := ⟨_, rfl⟩
      have HXS := Lib.hid hxs
      rw [hxs] at HO4
      have HROW := Lib.hid (fun g hg => (HO4.out.lt g hg).1)
      clear hxs htt gc0 gc1 gc2 gc3 gc4 gc5 gc6 gc7 B3
      have hs4 := hr4.size
      go_wp2_with (at_builtin; refine wpList_append_own _ rfl _ _ 34 rfl w.heap.size 9 i0 (.string ByteArray.empty) 1 16 Tryz.underlying34 hi0 hz0 hz1 hz2 rfl (by decide) _ _ _ rfl (HO4.out.alloc _) ⟨w4.heap.size, 0, none⟩ 1 1 [.string t] rfl rfl ?c1 ?c2 ?c3 ?c4 ?c5 ?_)
      case c1 => intro j u hj; cases j <;> simp_all [go_sem]
      case c2 => intro u hu; simp only [List.mem_singleton] at hu; subst hu; rfl
      case c3 => (have h := HLT.out; unfold maxLen; omega)
      case c4 => (have h := HLT.out; omega)
      case c5 => (simp; omega)
      intro v2 w5 hown5 hg5 _
      have hr5 : Below w.heap.size w w5 := (hr4.alloc (by omega) _).grown hg5 (by simp; omega) (fun g hg => HROW.out g hg)
      have HO5 := Lib.hid (show w5.ownsRow w.heap.size 9 1 v2 (k + 1) ((((insL least ar).take (k + 1)).map tx).map Value.string) by rw [HST.out, List.map_append, List.map_append, List.map_singleton, List.map_singleton, HTT.out, HXS.out]; exact hown5)
      clear hown5 hg5
      go_wp2
      go_roundw
      case rel => exact ⟨k + 1, v2, HLT.out, by go_num, rfl, HO5, hr5⟩
      case measure =>
        have := HLT.out
        simp [intOf]
        omega
    · have hke : k = ar.length := by omega
      have htk : (insL least ar).take k = insL least ar := List.take_of_length_le (by rw [ins_len]; omega)
      have HJN := Lib.hid (join_own (n := k) ((insL least ar).map tx) (tx sep) wr (by have h := HO.out; rwa [htk] at h) (by rw [List.length_map, ins_len]; omega) (by rw [tx_data, List.map_map, show ((fun b : ByteArray => b.data.toList) ∘ tx) = id from funext tx_data, List.map_id]; have := HJ.out; omega))
      clear hke htk
      go_wp2_with fail
      refine HJN.out.mono ?_
      rintro en w9 ⟨⟨t, rfl, ht⟩, hb9⟩
      rw [tx_data, List.map_map, show ((fun b : ByteArray => b.data.toList) ∘ tx) = id from funext tx_data, List.map_id] at ht
      have HTE := Lib.hid (tx_of ht)
      clear ht
      go_wp2_with fail
      go_ret
      exact ⟨by rw [HTE.out]; try rfl, hbr.trans (hb9.mono hsr)⟩
end Go.Proofs.YtcmccjcelchlhaaGreatDoor
namespace Go.Proofs.YtcmccjcelchlhaaGreatDoor
open Go.RowKit Go.Lib Go.Sort

/-- the texts as values -/
def txV (l : List (List UInt8)) : List Value := l.map fun b => .string (tx b)
theorem txV_len (l : List (List UInt8)) : (txV l).length = l.length := by unfold txV; simp
theorem below_put {B : Nat} {w : World} {g q : Nat} {d : Array (List UInt8)} (h : B ≤ g) : Below B w (putRow encStr (Sort.ahead w q) g 0 d) := by
  refine ⟨rfl, rfl, rfl, ?_, fun k hk => ?_⟩
  · unfold putRow mapBlock; simp [Sort.ahead]
  · unfold putRow mapBlock
    simp only [Sort.ahead, Array.getElem?_modify]
    rw [if_neg (by omega)]
theorem below_grow {B : Nat} {w w' : World} (hb : Below B w w') (hB : B ≤ w.heap.size) (os : Array Obj) : Below B w (grow w' os) := by
  refine ⟨hb.os, hb.tape, hb.output, ?_, fun k hk => ?_⟩
  · have := hb.size
    unfold grow; simp; omega
  · have := hb.size
    unfold grow
    simp only
    rw [Array.getElem?_append_left (by omega)]
    exact hb.block k hk
theorem put_blk {w : World} {g q : Nat} {T : TypeId} {cur : Array Value} (d : Array (List UInt8)) (h : Blk w g T cur) : Blk (putRow encStr (Sort.ahead w q) g 0 d) g T (putCells encStr 0 d cur) := by
  unfold Blk at *
  unfold putRow mapBlock
  simp only [Sort.ahead, Array.getElem?_modify, if_true, h]
  rfl
theorem put_get (d : Array (List UInt8)) (cur : Array Value) (hd : d.size ≤ cur.size) : (putCells encStr 0 d cur).toList.take d.size = txV d.toList := by
  apply List.ext_getElem?
  intro i
  rw [List.getElem?_take]
  by_cases hi : i < d.size
  · rw [if_pos hi]
    unfold putCells txV
    have hc : i < cur.size := by omega
    simp only [Array.getElem?_toList, Array.getElem?_mapIdx, List.getElem?_map, Array.getElem?_eq_getElem hc, Array.getElem?_eq_getElem hi, Option.map_some]
    rw [if_pos (by omega)]
    simp [hi, encStr, tx]
  · rw [if_neg hi, List.getElem?_eq_none (by rw [txV_len]; simpa using hi)]
theorem grow_blk {w : World} {g : Nat} {T : TypeId} {cur : Array Value} (os : Array Obj) (h : Blk w g T cur) : Blk (grow w os) g T cur := by
  unfold Blk at *
  have hlt : g < w.heap.size := by
    rcases Nat.lt_or_ge g w.heap.size with h' | h'
    · exact h'
    · rw [Array.getElem?_eq_none h'] at h; cases h
  unfold grow
  simp only
  rw [Array.getElem?_append_left hlt, h]
theorem holds_own {w : World} {g n : Nat} {T : TypeId} {cur : Array Value} (l : List (List UInt8)) (h : Blk w g T cur) (hl : l.length = n) (ht : cur.toList.take n = txV l) : Holds encStr w g 0 l.toArray := by
  intro j hj
  have hj' : j < l.length := by simpa using hj
  refine ⟨?_, h.frozen _⟩
  rw [h.cell, Nat.zero_add]
  have e : (cur.toList.take n)[j]? = (txV l)[j]? := by rw [ht]
  rw [List.getElem?_take, if_pos (by omega)] at e
  rw [← Array.getElem?_toList, e]
  unfold txV
  rw [List.getElem?_map, List.getElem?_eq_getElem hj']
  simp [hj', encStr, tx]
theorem compact_le (l : List (List UInt8)) : (compact l).length ≤ l.length := by
  unfold compact compactUpTo
  rw [List.length_map]
  exact Nat.le_trans (List.length_filter_le _ _) (by simp)
/-- slices.Sort on an own row of texts -/
theorem sort_own {B n : Nat} {v : Value} (l : List (List UInt8)) (w : World) (h : w.ownsRow B 9 1 v n (txV l)) (hN : l.length ≤ 140737488355328) (hB : B ≤ w.heap.size) :
    Calls Tryz.prog 33 #[v] w fun e w' => e = .returned (.tuple #[]) ∧ w'.ownsRow B 9 1 v n (txV (sortL l)) ∧ Below B w w' := by
  obtain ⟨hlen, ⟨rfl, rfl⟩ | ⟨g, c, cur, rfl, hg, hc, h3, h4, h5, h6⟩⟩ := h
  · rw [txV_len] at hlen
    have hl : l = [] := List.eq_nil_of_length_eq_zero (by omega)
    subst hl
    refine (Tryz.slices_Sort_string_none none 0 w).mono ?_
    rintro e w' ⟨rfl, rfl⟩
    exact ⟨rfl, by rw [show sortL [] = [] from by simp [sortL]]; exact World.ownsRow_nil _ _ _ _, Below.refl _ _⟩
  · rw [txV_len] at hlen
    rw [Nat.mul_one] at hlen h5 h6
    subst hlen
    have hlt : g < w.heap.size := by
      rcases Nat.lt_or_ge g w.heap.size with h' | h'
      · exact h'
      · rw [Array.getElem?_eq_none h'] at hc; cases hc
    have hb : Blk w g 9 cur := hc
    refine (Tryz.slices_Sort_string g 0 c l w (holds_own l hb rfl h6) hlt (by omega)).mono ?_
    rintro e w' ⟨rfl, q, os, rfl⟩
    refine ⟨rfl, ⟨by rw [txV_len, sortL_len, Nat.mul_one], .inr ⟨g, c, _, rfl, hg, grow_blk os (put_blk _ hb), h3, h4, ?_, ?_⟩⟩, below_grow (below_put hg) hB os⟩
    · unfold putCells; simp [h5]
    · rw [Nat.mul_one]
      have := put_get (sortL l).toArray cur (by simp [sortL_len, h5]; omega)
      simp only [List.size_toArray, sortL_len] at this
      exact this
/-- a slice of texts in memory, or nil -/
def NamesAt (w : World) (v : Value) (l : List (List UInt8)) : Prop := (v = .slice none 0 0 ∧ l = []) ∨ ∃ ad c, v = .slice (some ad) l.length c ∧ l.length ≤ c ∧ ad.block < w.heap.size ∧ ∀ j u, (txV l)[j]? = some u → w.cell? (ad.add j) = some u
/-- slices.Compact on an own row of texts -/
theorem compact_own {B n : Nat} {v : Value} (l : List (List UInt8)) (w : World) (h : w.ownsRow B 9 1 v n (txV l)) (hN : l.length ≤ 140737488355328) (hB : B ≤ w.heap.size) :
    Calls Tryz.prog 34 #[v] w fun e w' => ∃ v', e = .returned v' ∧ NamesAt w' v' (compact l) ∧ Below B w w' := by
  obtain ⟨hlen, ⟨rfl, rfl⟩ | ⟨g, c, cur, rfl, hg, hc, h3, h4, h5, h6⟩⟩ := h
  · rw [txV_len] at hlen
    have hl : l = [] := List.eq_nil_of_length_eq_zero (by omega)
    subst hl
    refine (Tryz.slices_Compact_string_empty none 0 w).mono ?_
    rintro e w' ⟨rfl, rfl⟩
    exact ⟨_, rfl, .inl ⟨rfl, rfl⟩, Below.refl _ _⟩
  · rw [txV_len] at hlen
    rw [Nat.mul_one] at hlen h5 h6
    subst hlen
    have hlt : g < w.heap.size := by
      rcases Nat.lt_or_ge g w.heap.size with h' | h'
      · exact h'
      · rw [Array.getElem?_eq_none h'] at hc; cases hc
    have hb : Blk w g 9 cur := hc
    have hcl : (compact l).length ≤ l.length := compact_le l
    refine (Tryz.slices_Compact_string g 0 c l w (holds_own l hb rfl h6) (by omega) h3).mono ?_
    rintro e w' ⟨rfl, q, rfl⟩
    obtain ⟨r, hr⟩ : ∃ r, compact l ++ List.replicate (l.length - (compact l).length) [] = r := ⟨_, rfl⟩
    rw [hr]
    have hrl : r.length = l.length := by rw [← hr]; simp; omega
    have hB' := put_blk (q := q) r.toArray hb
    have hp := put_get r.toArray cur (by simp [hrl, h5]; omega)
    have hbe : Below B w (putRow encStr (Sort.ahead w q) g 0 r.toArray) := below_put hg
    refine ⟨_, rfl, .inr ⟨⟨g, 0, none⟩, c, rfl, by omega, by have := hbe.size; show g < _; omega, fun j u hu => ?_⟩, hbe⟩
    have e : (⟨g, 0, none⟩ : Addr).add j = ⟨g, j, none⟩ := by unfold Addr.add; split <;> simp_all
    rw [e, hB'.cell j]
    have hj : j < (compact l).length := by
      rcases Nat.lt_or_ge j (compact l).length with h' | h'
      · exact h'
      · rw [List.getElem?_eq_none (by rw [txV_len]; exact h')] at hu; cases hu
    have e2 : ((putCells encStr 0 r.toArray cur).toList.take r.toArray.size)[j]? = (txV r.toArray.toList)[j]? := by rw [hp]
    rw [List.getElem?_take, if_pos (by simp [hrl]; omega)] at e2
    rw [← Array.getElem?_toList, e2, ← hu, ← hr]
    unfold txV
    simp [List.getElem?_append_left, hj]
end Go.Proofs.YtcmccjcelchlhaaGreatDoor
namespace Go.Proofs.YtcmccjcelchlhaaGreatDoor
open Go.RowKit

theorem run_append_none {P : Program} {w : World} {base n size : Nat} {t ty e : TypeId} {i : TypeInfo} {v : Value} {xs : List Value} (ht : P.underlying t = some (.slice e)) (hi : P.info? e = some i) (_ : i.size = size) (hown : w.ownsRow base e size v n xs) :
    (Builtin.append_ #[t, t] ty #[v, .slice none 0 0]).run P w = .ok v w := by
  rcases hown.2 with ⟨rfl, rfl⟩ | ⟨g, cap, cur, rfl, hbg, hg, hnc, hcm, hcs, htake⟩
  · simp [Builtin.append_, run_underlying ht, sizeOf, typeInfo, hi, Builtin.lenOf, Builtin.firstCells]
  · have hn : n + 0 ≤ cap := hnc
    simp [Builtin.append_, run_underlying ht, sizeOf, typeInfo, hi, Builtin.lenOf, Builtin.firstCells, loadCells, hnc, storeCells]
theorem wpList_append_none {P : Program} {w : World} {ops : Array Oper} {rest : List Oper} {o : Oper} {a : Act} {Q : Exit → Act → World → Prop} (hgd : o.guard = none) (s x : Operand) (t : TypeId)
    (ho : o.op = .call { callee := .builtin .append, args := #[s, x], argTypes := #[t, t] })
    (base : Nat) (e : TypeId) (i : TypeInfo) (size : Nat) (ht : P.underlying t = some (.slice e)) (hi : P.info? e = some i) (hsize : i.size = size)
    (v : Value) (n : Nat) (xs : List Value) (hs : a.eval s = v) (hown : w.ownsRow base e size v n xs) (hx : a.eval x = .slice none 0 0)
    (h : wpList P ops Q rest (a.put o.dst v) w) : wpList P ops Q (o :: rest) a w := by
  refine wpList_plain hgd fun _ hK => ?_
  have hr := run_append_none (P := P) (w := w) (ty := o.type) ht hi hsize hown
  unfold Oper.wp execOp
  simp only [ho, resolve, invoke, builtin, Sem.run_bind, Sem.run_pure, Result.andThen_ok, List.map_toArray, List.map_cons, List.map_nil, hs, hx, hr]
  exact hK _ _ h
end Go.Proofs.YtcmccjcelchlhaaGreatDoor
namespace Go.Proofs.YtcmccjcelchlhaaGreatDoor
open Go.RowKit Go.Lib
attribute [local go_sem ↓] Go.wp_at_zero Go.wp_at_succ

def NamesSpec (F : FuncId) (e : Ex) (l : List (List UInt8)) : Prop := ∀ (B : Nat) (cs : List Value) (w : World), ExAt w B e cs → B ≤ w.heap.size → Calls Tryz.prog F #[.agg cs.toArray] w fun en w' => ∃ v, en = .returned v ∧ NamesAt w' v l ∧ Below w.heap.size w w'
theorem rnames_len (e : Ex) : e.rnames.length ≤ e.parts := by
  induction e using Ex.ind with
  | h e ih =>
    rw [rnames_eq, parts_eq]
    have h0 := compact_le (sortL (nameOf e.k e.nm ++ rnamesL e.ar))
    rw [sortL_len, List.length_append] at h0
    have h1 : ∀ l : List Ex, (∀ a ∈ l, a.rnames.length ≤ a.parts) → (rnamesL l).length ≤ partsL l := by
      intro l hl
      induction l with
      | nil => exact Nat.le_refl _
      | cons a r ihr =>
        rw [rnamesL, partsL, List.length_append]
        have h1 := hl a (List.mem_cons_self ..)
        have h2 := ihr (fun b hb => hl b (List.mem_cons_of_mem _ hb))
        omega
    have h3 := h1 e.ar ih
    have h2 : (nameOf e.k e.nm).length ≤ 1 := by unfold nameOf; split <;> simp
    omega
theorem rnamesL_len : ∀ ar : List Ex, (rnamesL ar).length ≤ partsL ar
  | [] => Nat.le_refl _
  | a :: r => by
    rw [rnamesL, partsL, List.length_append]
    have := rnames_len a
    have := rnamesL_len r
    omega
theorem rnamesL_snoc : ∀ (ar : List Ex) (a : Ex), rnamesL (ar ++ [a]) = rnamesL ar ++ a.rnames
  | [], a => by simp [rnamesL]
  | b :: r, a => by rw [List.cons_append, rnamesL, rnamesL_snoc r a, rnamesL, List.append_assoc]
set_option maxHeartbeats 4000000 in
set_option maxRecDepth 100000 in
theorem rNames_any (e : Ex) : e.parts ≤ 1000000 → NamesSpec 15 e e.rnames := by
  induction e using Ex.ind with
  | h e ih =>
    intro hp B cs w hx hB
    have hpe := parts_eq e
    have HP := Lib.hid (show partsL e.ar ≤ 1000000 by omega)
    have HI := Lib.hid (fun a (ha : a ∈ e.ar) => ih a ha (by have := partsL_mem ha; omega))
    have hal : e.ar.length ≤ 1000000 := by have := len_parts e.ar; omega
    have HRE := Lib.hid (rnames_eq e)
    obtain ⟨i0, hi0, hz0, hz1, hz2⟩ := info_parts infoStr
    obtain ⟨hn, hs, hl, ha, hx, hr, hi⟩ := hx
    rename_i A1 c1 A2 c2 cs
    have HR := Lib.hid (And.intro hr hi)
    clear hx hr hi ih hpe hp
    generalize e.rnames = R at HRE ⊢
    show Calls Tryz.prog 15 #[.agg #[.int .i64 e.k, .int .i64 e.op, .string e.nm, .int .i64 e.v.k, .int .i64 e.v.n, .string e.v.s, .slice A1 e.v.l.length c1, .slice A2 e.ar.length c2]] w _
    by_cases k2 : e.k = 2
    · have HRE := Lib.hid (show R = compact (sortL ([e.nm.data.toList] ++ rnamesL e.ar)) by rw [HRE.out]; unfold nameOf; rw [if_pos k2])
      have bk : (e.k == 2) = true := by simp [k2]
      clear k2
      go_enter Tryz.func15, Tryz.ntmps15
      go_upto_region 2 with (fail)
      obtain ⟨W, hW⟩ : ∃ W, W = (w.alloc (.cells #[.int .i64 e.k, .int .i64 e.op, .string e.nm, .int .i64 e.v.k, .int .i64 e.v.n, .string e.v.s, .slice A1 e.v.l.length c1, .slice A2 e.ar.length c2] 27 (0, 0))) := ⟨_, rfl⟩
      have hbw : Below w.heap.size w W := by rw [hW]; exact ((Below.refl _ w).alloc (Nat.le_refl _) _)
      have B0 : Blk W (w.heap.size) 27 #[.int .i64 e.k, .int .i64 e.op, .string e.nm, .int .i64 e.v.k, .int .i64 e.v.n, .string e.v.s, .slice A1 e.v.l.length c1, .slice A2 e.ar.length c2] := by
        rw [hW]
        have := Blk.new w 27 #[.int .i64 e.k, .int .i64 e.op, .string e.nm, .int .i64 e.v.k, .int .i64 e.v.n, .string e.v.s, .slice A1 e.v.l.length c1, .slice A2 e.ar.length c2]
        exact this
      have hsz : W.heap.size = w.heap.size + 1 := by rw [hW]; simp
      rw [← hW]
      have ec0 : W.cell? ⟨w.heap.size, 0, none⟩ = some (.int .i64 e.k) := B0.cell 0
      have ec1 : W.cell? ⟨w.heap.size, 1, none⟩ = some (.int .i64 e.op) := B0.cell 1
      have ec2 : W.cell? ⟨w.heap.size, 2, none⟩ = some (.string e.nm) := B0.cell 2
      have ec3 : W.cell? ⟨w.heap.size, 3, none⟩ = some (.int .i64 e.v.k) := B0.cell 3
      have ec4 : W.cell? ⟨w.heap.size, 4, none⟩ = some (.int .i64 e.v.n) := B0.cell 4
      have ec5 : W.cell? ⟨w.heap.size, 5, none⟩ = some (.string e.v.s) := B0.cell 5
      have ec6 : W.cell? ⟨w.heap.size, 6, none⟩ = some (.slice A1 e.v.l.length c1) := B0.cell 6
      have ec7 : W.cell? ⟨w.heap.size, 7, none⟩ = some (.slice A2 e.ar.length c2) := B0.cell 7
      clear hW hsz
      have hsW := hbw.size
      go_wp2_with (at_builtin; refine wpList_append_own _ rfl _ _ 34 rfl w.heap.size 9 i0 (.string ByteArray.empty) 1 16 Tryz.underlying34 hi0 hz0 hz1 hz2 rfl (by decide) _ _ _ rfl (World.ownsRow_nil _ _ _ _) ⟨W.heap.size, 0, none⟩ 1 1 [.string e.nm] rfl rfl ?c1 ?c2 ?c3 ?c4 ?c5 ?_)
      case c1 => intro j u hj; cases j <;> simp_all [go_sem]
      case c2 => intro u hu; simp only [List.mem_singleton] at hu; subst hu; rfl
      case c3 => unfold maxLen; omega
      case c4 => omega
      case c5 => (simp; omega)
      intro v2 w2 hown2 hg2 _
      have hb2 : Below W.heap.size W w2 := ((Below.refl _ W).alloc (Nat.le_refl _) _).grown hg2 (by simp) (fun g hg => by simp [Value.ownBlock] at hg)
      have hr2 := hbw.trans (hb2.mono hbw.size)
      have HO2 := Lib.hid (show w2.ownsRow w.heap.size 9 1 v2 1 (txV ([e.nm.data.toList] ++ rnamesL (e.ar.take 0))) from hown2)
      have B0 := B0.below hb2 B0.lt
      clear hown2 hg2 ec0 ec1 ec2 ec3 ec4 ec5 ec6 ec7
      have ec0 : w2.cell? ⟨w.heap.size, 0, none⟩ = some (.int .i64 e.k) := B0.cell 0
      have ec1 : w2.cell? ⟨w.heap.size, 1, none⟩ = some (.int .i64 e.op) := B0.cell 1
      have ec2 : w2.cell? ⟨w.heap.size, 2, none⟩ = some (.string e.nm) := B0.cell 2
      have ec3 : w2.cell? ⟨w.heap.size, 3, none⟩ = some (.int .i64 e.v.k) := B0.cell 3
      have ec4 : w2.cell? ⟨w.heap.size, 4, none⟩ = some (.int .i64 e.v.n) := B0.cell 4
      have ec5 : w2.cell? ⟨w.heap.size, 5, none⟩ = some (.string e.v.s) := B0.cell 5
      have ec6 : w2.cell? ⟨w.heap.size, 6, none⟩ = some (.slice A1 e.v.l.length c1) := B0.cell 6
      have ec7 : w2.cell? ⟨w.heap.size, 7, none⟩ = some (.slice A2 e.ar.length c2) := B0.cell 7
      clear B0
      go_wp2_with fail
      go_loopw [17, 3] (fun i v wr => ∃ (k n : Nat) (u : Value), k ≤ e.ar.length ∧ i = .int .i64 k ∧ v = u ∧ Hid (wr.ownsRow w.heap.size 9 1 u n (txV ([e.nm.data.toList] ++ rnamesL (e.ar.take k)))) ∧ Below w.heap.size w wr) (fun i _ _ => e.ar.length - (intOf i).toNat)
      case atStart => exact ⟨0, 1, _, Nat.zero_le _, rfl, rfl, HO2, hr2⟩
      case round =>
        obtain ⟨k, n, u, hk, rfl, rfl, HO, hbr⟩ := hrel
        have hsr := hbr.size
        have hBr := hbr.mono hB
        have hnn : n ≤ 1 + 1000000 := by
          have h := HO.out.1
          rw [txV_len, List.length_append, Nat.mul_one] at h
          have h1 := rnamesL_len (e.ar.take k)
          have h2 := partsL_take e.ar k
          have h3 := HP.out
          have h4 : ([e.nm.data.toList]).length ≤ 1 := by simp
          omega
        by_cases hlt : k < e.ar.length
        · obtain ⟨ad, ci, rfl, hb, hci, hcell⟩ := exs_at (HR.out.1.below hBr) (fun i h => (HR.out.2 i h).keep hBr) hlt
          obtain ⟨a, hea⟩ : ∃ a, e.ar[k] = a := ⟨_, rfl⟩
          have ham : a ∈ e.ar := by rw [← hea]; exact List.getElem_mem hlt
          have HST := Lib.hid (show e.ar.take (k + 1) = e.ar.take k ++ [a] by rw [List.take_succ_eq_append_getElem hlt, hea])
          have HLT := Lib.hid hlt
          rw [hea] at hci
          have HWA := Lib.hid (HI.out a ham)
          have HAL := Lib.hid (show a.rnames.length ≤ 1000000 by have := rnames_len a; have := partsL_mem ham; have := HP.out; omega)
          have HCI := Lib.hid hci
          obtain ⟨hn1, hs1, hl1, ha1, hx1, hr1, hi1⟩ := hci
          rename_i A3 c3 A4 c4 cs1
          have fc0 : wr.cell? (ad.add (k * 8)) = some (.int .i64 a.k) := hcell 0 _ rfl
          have fc1 : wr.cell? ⟨(ad.add (k * 8)).block, (ad.add (k * 8)).off + 1, none⟩ = some (.int .i64 a.op) := hcell 1 _ rfl
          have fc2 : wr.cell? ⟨(ad.add (k * 8)).block, (ad.add (k * 8)).off + 2, none⟩ = some (.string a.nm) := hcell 2 _ rfl
          have fc3 : wr.cell? ⟨(ad.add (k * 8)).block, (ad.add (k * 8)).off + 3, none⟩ = some (.int .i64 a.v.k) := hcell 3 _ rfl
          have fc4 : wr.cell? ⟨(ad.add (k * 8)).block, (ad.add (k * 8)).off + 4, none⟩ = some (.int .i64 a.v.n) := hcell 4 _ rfl
          have fc5 : wr.cell? ⟨(ad.add (k * 8)).block, (ad.add (k * 8)).off + 5, none⟩ = some (.string a.v.s) := hcell 5 _ rfl
          have fc6 : wr.cell? ⟨(ad.add (k * 8)).block, (ad.add (k * 8)).off + 6, none⟩ = some (.slice A3 a.v.l.length c3) := hcell 6 _ rfl
          have fc7 : wr.cell? ⟨(ad.add (k * 8)).block, (ad.add (k * 8)).off + 7, none⟩ = some (.slice A4 a.ar.length c4) := hcell 7 _ rfl
          clear hx1 hr1 hi1 hcell hea ham hb
          go_upto_region 7 with (fail)
          obtain ⟨W3, hW3⟩ : ∃ W3, W3 = wr.alloc (.cells #[.int .i64 a.k, .int .i64 a.op, .string a.nm, .int .i64 a.v.k, .int .i64 a.v.n, .string a.v.s, .slice A3 a.v.l.length c3, .slice A4 a.ar.length c4] 27 (0, 0)) := ⟨_, rfl⟩
          have hb3 : Below wr.heap.size wr W3 := hW3 ▸ (Below.refl _ wr).alloc (Nat.le_refl _) _
          have B3 : Blk W3 wr.heap.size 27 #[.int .i64 a.k, .int .i64 a.op, .string a.nm, .int .i64 a.v.k, .int .i64 a.v.n, .string a.v.s, .slice A3 a.v.l.length c3, .slice A4 a.ar.length c4] := hW3 ▸ Blk.new wr _ _
          have HO3 := Lib.hid (show W3.ownsRow w.heap.size 9 1 _ n _ from hW3 ▸ HO.out.alloc _)
          rw [← hW3]
          clear hW3 fc0 fc1 fc2 fc3 fc4 fc5 fc6 fc7
          have hr3 := hbr.trans (hb3.mono hsr)
          have gc0 : W3.cell? ⟨wr.heap.size, 0, none⟩ = some (.int .i64 a.k) := B3.cell 0
          have gc1 : W3.cell? ⟨wr.heap.size, 1, none⟩ = some (.int .i64 a.op) := B3.cell 1
          have gc2 : W3.cell? ⟨wr.heap.size, 2, none⟩ = some (.string a.nm) := B3.cell 2
          have gc3 : W3.cell? ⟨wr.heap.size, 3, none⟩ = some (.int .i64 a.v.k) := B3.cell 3
          have gc4 : W3.cell? ⟨wr.heap.size, 4, none⟩ = some (.int .i64 a.v.n) := B3.cell 4
          have gc5 : W3.cell? ⟨wr.heap.size, 5, none⟩ = some (.string a.v.s) := B3.cell 5
          have gc6 : W3.cell? ⟨wr.heap.size, 6, none⟩ = some (.slice A3 a.v.l.length c3) := B3.cell 6
          have gc7 : W3.cell? ⟨wr.heap.size, 7, none⟩ = some (.slice A4 a.ar.length c4) := B3.cell 7
          go_wp2_with fail
          refine (HWA.out B _ W3 (HCI.out.keep (hb3.mono (Nat.le_trans hB hsr))) (Nat.le_trans hB hr3.size)).mono ?_
          rintro en w4 ⟨v4, rfl, hv4, hb4⟩
          have hr4 := hr3.trans (hb4.mono hr3.size)
          have HO4 := Lib.hid (own_below HO3.out hb4)
          obtain ⟨xs, hxs⟩ : ∃ xs : List Value, txV ([e.nm.data.toList] ++ rnamesL (e.ar.take k)) = xs := ⟨_, rfl⟩
          have HXS := Lib.hid hxs
          rw [hxs] at HO4
          have HROW := Lib.hid (fun g hg => (HO4.out.lt g hg).1)
          clear hxs gc0 gc1 gc2 gc3 gc4 gc5 gc6 gc7 B3
          have hs4 := hr4.size
          rcases hv4 with ⟨rfl, hnil⟩ | ⟨ad4, c4', rfl, hc4, hlt4, hcell4⟩
          · have HNIL := Lib.hid hnil
            clear hnil
            go_wp2_with (at_builtin; refine wpList_append_none rfl _ _ 34 rfl w.heap.size 9 i0 1 Tryz.underlying34 hi0 hz1 _ _ _ rfl HO4.out rfl ?_)
            have HO5 := Lib.hid (show w4.ownsRow w.heap.size 9 1 _ n (txV ([e.nm.data.toList] ++ rnamesL (e.ar.take (k + 1)))) by rw [HST.out, rnamesL_snoc, HNIL.out, List.append_nil, HXS.out]; exact HO4.out)
            go_wp2
            go_roundw
            case rel => exact ⟨k + 1, n, _, HLT.out, by go_num, rfl, HO5, hr4⟩
            case measure =>
              have := HLT.out
              simp [intOf]
              omega
          · have HC4 := Lib.hid hcell4
            clear hcell4
            obtain ⟨m, hm⟩ : ∃ m, a.rnames.length = m := ⟨_, rfl⟩
            have HM := Lib.hid hm
            rw [hm] at hc4
            rw [hm]
            clear hm
            go_wp2_with (at_builtin; refine wpList_append_own _ rfl _ _ 34 rfl w.heap.size 9 i0 (.string ByteArray.empty) 1 16 Tryz.underlying34 hi0 hz0 hz1 hz2 rfl (by decide) _ _ _ rfl HO4.out ad4 m c4' (txV a.rnames) rfl ?c1 ?c2 ?c3 ?c4 ?c5 ?c6 ?_)
            case c1 => rw [txV_len, HM.out, Nat.mul_one]
            case c2 => exact HC4.out
            case c3 =>
              intro u hu
              obtain ⟨b, _, rfl⟩ := List.mem_map.1 hu
              rfl
            case c4 => (have h := HAL.out; rw [HM.out] at h; unfold maxLen; omega)
            case c5 => (have h := HAL.out; rw [HM.out] at h; omega)
            case c6 => omega
            intro v2 w5 hown5 hg5 _
            have hr5 : Below w.heap.size w w5 := hr4.grown hg5 (by omega) (fun g hg => HROW.out g hg)
            have HO5 := Lib.hid (show w5.ownsRow w.heap.size 9 1 v2 (n + m) (txV ([e.nm.data.toList] ++ rnamesL (e.ar.take (k + 1)))) by
              rw [HST.out, rnamesL_snoc, ← List.append_assoc, show ∀ p q : List (List UInt8), txV (p ++ q) = txV p ++ txV q from fun p q => List.map_append, HXS.out]; exact hown5)
            clear hown5 hg5
            go_wp2
            go_roundw
            case rel => exact ⟨k + 1, n + m, v2, HLT.out, by go_num, rfl, HO5, hr5⟩
            case measure =>
              have := HLT.out
              simp [intOf]
              omega
        · have hke : k = e.ar.length := by omega
          have HLEN := Lib.hid (show ([e.nm.data.toList] ++ rnamesL e.ar).length ≤ 140737488355328 by
            have h1 := rnamesL_len e.ar
            have h3 := HP.out
            have h4 : ([e.nm.data.toList]).length ≤ 1 := by simp
            rw [List.length_append]; omega)
          have HOF := Lib.hid (show wr.ownsRow w.heap.size 9 1 _ n (txV ([e.nm.data.toList] ++ rnamesL e.ar)) by have h := HO.out; rwa [hke, List.take_length] at h)
          clear HO hke
          go_wp2_with fail
          refine (sort_own _ wr HOF.out HLEN.out hsr).mono ?_
          rintro en w6 ⟨rfl, ho6, hb6⟩
          have HO6 := Lib.hid ho6
          clear ho6
          have hr6 := hbr.trans hb6
          go_wp2_with fail
          refine (compact_own _ w6 HO6.out (by rw [sortL_len]; exact HLEN.out) hr6.size).mono ?_
          rintro en w7 ⟨v7, rfl, hv7, hb7⟩
          have HV7 := Lib.hid hv7
          clear hv7
          go_wp2_with fail
          go_ret
          exact ⟨_, rfl, by rw [HRE.out]; exact HV7.out, hr6.trans hb7⟩
    · have HRE := Lib.hid (show R = compact (sortL (([] : List (List UInt8)) ++ rnamesL e.ar)) by rw [HRE.out]; unfold nameOf; rw [if_neg k2])
      have bk : (e.k == 2) = false := by simp [k2]
      clear k2
      go_enter Tryz.func15, Tryz.ntmps15
      go_upto_region 2 with (fail)
      obtain ⟨W, hW⟩ : ∃ W, W = (w.alloc (.cells #[.int .i64 e.k, .int .i64 e.op, .string e.nm, .int .i64 e.v.k, .int .i64 e.v.n, .string e.v.s, .slice A1 e.v.l.length c1, .slice A2 e.ar.length c2] 27 (0, 0))) := ⟨_, rfl⟩
      have hbw : Below w.heap.size w W := by rw [hW]; exact ((Below.refl _ w).alloc (Nat.le_refl _) _)
      have B0 : Blk W (w.heap.size) 27 #[.int .i64 e.k, .int .i64 e.op, .string e.nm, .int .i64 e.v.k, .int .i64 e.v.n, .string e.v.s, .slice A1 e.v.l.length c1, .slice A2 e.ar.length c2] := by
        rw [hW]
        have := Blk.new w 27 #[.int .i64 e.k, .int .i64 e.op, .string e.nm, .int .i64 e.v.k, .int .i64 e.v.n, .string e.v.s, .slice A1 e.v.l.length c1, .slice A2 e.ar.length c2]
        exact this
      have hsz : W.heap.size = w.heap.size + 1 := by rw [hW]; simp
      rw [← hW]
      have ec0 : W.cell? ⟨w.heap.size, 0, none⟩ = some (.int .i64 e.k) := B0.cell 0
      have ec1 : W.cell? ⟨w.heap.size, 1, none⟩ = some (.int .i64 e.op) := B0.cell 1
      have ec2 : W.cell? ⟨w.heap.size, 2, none⟩ = some (.string e.nm) := B0.cell 2
      have ec3 : W.cell? ⟨w.heap.size, 3, none⟩ = some (.int .i64 e.v.k) := B0.cell 3
      have ec4 : W.cell? ⟨w.heap.size, 4, none⟩ = some (.int .i64 e.v.n) := B0.cell 4
      have ec5 : W.cell? ⟨w.heap.size, 5, none⟩ = some (.string e.v.s) := B0.cell 5
      have ec6 : W.cell? ⟨w.heap.size, 6, none⟩ = some (.slice A1 e.v.l.length c1) := B0.cell 6
      have ec7 : W.cell? ⟨w.heap.size, 7, none⟩ = some (.slice A2 e.ar.length c2) := B0.cell 7
      clear hW hsz B0
      go_wp2_with fail
      go_loopw [17, 3] (fun i v wr => ∃ (k n : Nat) (u : Value), k ≤ e.ar.length ∧ i = .int .i64 k ∧ v = u ∧ Hid (wr.ownsRow w.heap.size 9 1 u n (txV (([] : List (List UInt8)) ++ rnamesL (e.ar.take k)))) ∧ Below w.heap.size w wr) (fun i _ _ => e.ar.length - (intOf i).toNat)
      case atStart => exact ⟨0, 0, _, Nat.zero_le _, rfl, rfl, Lib.hid (World.ownsRow_nil _ _ _ _), hbw⟩
      case round =>
        obtain ⟨k, n, u, hk, rfl, rfl, HO, hbr⟩ := hrel
        have hsr := hbr.size
        have hBr := hbr.mono hB
        have hnn : n ≤ 1 + 1000000 := by
          have h := HO.out.1
          rw [txV_len, List.length_append, Nat.mul_one] at h
          have h1 := rnamesL_len (e.ar.take k)
          have h2 := partsL_take e.ar k
          have h3 := HP.out
          have h4 : (([] : List (List UInt8))).length ≤ 1 := by simp
          omega
        by_cases hlt : k < e.ar.length
        · obtain ⟨ad, ci, rfl, hb, hci, hcell⟩ := exs_at (HR.out.1.below hBr) (fun i h => (HR.out.2 i h).keep hBr) hlt
          obtain ⟨a, hea⟩ : ∃ a, e.ar[k] = a := ⟨_, rfl⟩
          have ham : a ∈ e.ar := by rw [← hea]; exact List.getElem_mem hlt
          have HST := Lib.hid (show e.ar.take (k + 1) = e.ar.take k ++ [a] by rw [List.take_succ_eq_append_getElem hlt, hea])
          have HLT := Lib.hid hlt
          rw [hea] at hci
          have HWA := Lib.hid (HI.out a ham)
          have HAL := Lib.hid (show a.rnames.length ≤ 1000000 by have := rnames_len a; have := partsL_mem ham; have := HP.out; omega)
          have HCI := Lib.hid hci
          obtain ⟨hn1, hs1, hl1, ha1, hx1, hr1, hi1⟩ := hci
          rename_i A3 c3 A4 c4 cs1
          have fc0 : wr.cell? (ad.add (k * 8)) = some (.int .i64 a.k) := hcell 0 _ rfl
          have fc1 : wr.cell? ⟨(ad.add (k * 8)).block, (ad.add (k * 8)).off + 1, none⟩ = some (.int .i64 a.op) := hcell 1 _ rfl
          have fc2 : wr.cell? ⟨(ad.add (k * 8)).block, (ad.add (k * 8)).off + 2, none⟩ = some (.string a.nm) := hcell 2 _ rfl
          have fc3 : wr.cell? ⟨(ad.add (k * 8)).block, (ad.add (k * 8)).off + 3, none⟩ = some (.int .i64 a.v.k) := hcell 3 _ rfl
          have fc4 : wr.cell? ⟨(ad.add (k * 8)).block, (ad.add (k * 8)).off + 4, none⟩ = some (.int .i64 a.v.n) := hcell 4 _ rfl
          have fc5 : wr.cell? ⟨(ad.add (k * 8)).block, (ad.add (k * 8)).off + 5, none⟩ = some (.string a.v.s) := hcell 5 _ rfl
          have fc6 : wr.cell? ⟨(ad.add (k * 8)).block, (ad.add (k * 8)).off + 6, none⟩ = some (.slice A3 a.v.l.length c3) := hcell 6 _ rfl
          have fc7 : wr.cell? ⟨(ad.add (k * 8)).block, (ad.add (k * 8)).off + 7, none⟩ = some (.slice A4 a.ar.length c4) := hcell 7 _ rfl
          clear hx1 hr1 hi1 hcell hea ham hb
          go_upto_region 7 with (fail)
          obtain ⟨W3, hW3⟩ : ∃ W3, W3 = wr.alloc (.cells #[.int .i64 a.k, .int .i64 a.op, .string a.nm, .int .i64 a.v.k, .int .i64 a.v.n, .string a.v.s, .slice A3 a.v.l.length c3, .slice A4 a.ar.length c4] 27 (0, 0)) := ⟨_, rfl⟩
          have hb3 : Below wr.heap.size wr W3 := hW3 ▸ (Below.refl _ wr).alloc (Nat.le_refl _) _
          have B3 : Blk W3 wr.heap.size 27 #[.int .i64 a.k, .int .i64 a.op, .string a.nm, .int .i64 a.v.k, .int .i64 a.v.n, .string a.v.s, .slice A3 a.v.l.length c3, .slice A4 a.ar.length c4] := hW3 ▸ Blk.new wr _ _
          have HO3 := Lib.hid (show W3.ownsRow w.heap.size 9 1 _ n _ from hW3 ▸ HO.out.alloc _)
          rw [← hW3]
          clear hW3 fc0 fc1 fc2 fc3 fc4 fc5 fc6 fc7
          have hr3 := hbr.trans (hb3.mono hsr)
          have gc0 : W3.cell? ⟨wr.heap.size, 0, none⟩ = some (.int .i64 a.k) := B3.cell 0
          have gc1 : W3.cell? ⟨wr.heap.size, 1, none⟩ = some (.int .i64 a.op) := B3.cell 1
          have gc2 : W3.cell? ⟨wr.heap.size, 2, none⟩ = some (.string a.nm) := B3.cell 2
          have gc3 : W3.cell? ⟨wr.heap.size, 3, none⟩ = some (.int .i64 a.v.k) := B3.cell 3
          have gc4 : W3.cell? ⟨wr.heap.size, 4, none⟩ = some (.int .i64 a.v.n) := B3.cell 4
          have gc5 : W3.cell? ⟨wr.heap.size, 5, none⟩ = some (.string a.v.s) := B3.cell 5
          have gc6 : W3.cell? ⟨wr.heap.size, 6, none⟩ = some (.slice A3 a.v.l.length c3) := B3.cell 6
          have gc7 : W3.cell? ⟨wr.heap.size, 7, none⟩ = some (.slice A4 a.ar.length c4) := B3.cell 7
          go_wp2_with fail
          refine (HWA.out B _ W3 (HCI.out.keep (hb3.mono (Nat.le_trans hB hsr))) (Nat.le_trans hB hr3.size)).mono ?_
          rintro en w4 ⟨v4, rfl, hv4, hb4⟩
          have hr4 := hr3.trans (hb4.mono hr3.size)
          have HO4 := Lib.hid (own_below HO3.out hb4)
          obtain ⟨xs, hxs⟩ : ∃ xs : List Value, txV (([] : List (List UInt8)) ++ rnamesL (e.ar.take k)) = xs := ⟨_, rfl⟩
          have HXS := Lib.hid hxs
          rw [hxs] at HO4
          have HROW := Lib.hid (fun g hg => (HO4.out.lt g hg).1)
          clear hxs gc0 gc1 gc2 gc3 gc4 gc5 gc6 gc7 B3
          have hs4 := hr4.size
          rcases hv4 with ⟨rfl, hnil⟩ | ⟨ad4, c4', rfl, hc4, hlt4, hcell4⟩
          · have HNIL := Lib.hid hnil
            clear hnil
            go_wp2_with (at_builtin; refine wpList_append_none rfl _ _ 34 rfl w.heap.size 9 i0 1 Tryz.underlying34 hi0 hz1 _ _ _ rfl HO4.out rfl ?_)
            have HO5 := Lib.hid (show w4.ownsRow w.heap.size 9 1 _ n (txV (([] : List (List UInt8)) ++ rnamesL (e.ar.take (k + 1)))) by rw [HST.out, rnamesL_snoc, HNIL.out, List.append_nil, HXS.out]; exact HO4.out)
            go_wp2
            go_roundw
            case rel => exact ⟨k + 1, n, _, HLT.out, by go_num, rfl, HO5, hr4⟩
            case measure =>
              have := HLT.out
              simp [intOf]
              omega
          · have HC4 := Lib.hid hcell4
            clear hcell4
            obtain ⟨m, hm⟩ : ∃ m, a.rnames.length = m := ⟨_, rfl⟩
            have HM := Lib.hid hm
            rw [hm] at hc4
            rw [hm]
            clear hm
            go_wp2_with (at_builtin; refine wpList_append_own _ rfl _ _ 34 rfl w.heap.size 9 i0 (.string ByteArray.empty) 1 16 Tryz.underlying34 hi0 hz0 hz1 hz2 rfl (by decide) _ _ _ rfl HO4.out ad4 m c4' (txV a.rnames) rfl ?c1 ?c2 ?c3 ?c4 ?c5 ?c6 ?_)
            case c1 => rw [txV_len, HM.out, Nat.mul_one]
            case c2 => exact HC4.out
            case c3 =>
              intro u hu
              obtain ⟨b, _, rfl⟩ := List.mem_map.1 hu
              rfl
            case c4 => (have h := HAL.out; rw [HM.out] at h; unfold maxLen; omega)
            case c5 => (have h := HAL.out; rw [HM.out] at h; omega)
            case c6 => omega
            intro v2 w5 hown5 hg5 _
            have hr5 : Below w.heap.size w w5 := hr4.grown hg5 (by omega) (fun g hg => HROW.out g hg)
            have HO5 := Lib.hid (show w5.ownsRow w.heap.size 9 1 v2 (n + m) (txV (([] : List (List UInt8)) ++ rnamesL (e.ar.take (k + 1)))) by
              rw [HST.out, rnamesL_snoc, ← List.append_assoc, show ∀ p q : List (List UInt8), txV (p ++ q) = txV p ++ txV q from fun p q => List.map_append, HXS.out]; exact hown5)
            clear hown5 hg5
            go_wp2
            go_roundw
            case rel => exact ⟨k + 1, n + m, v2, HLT.out, by go_num, rfl, HO5, hr5⟩
            case measure =>
              have := HLT.out
              simp [intOf]
              omega
        · have hke : k = e.ar.length := by omega
          have HLEN := Lib.hid (show (([] : List (List UInt8)) ++ rnamesL e.ar).length ≤ 140737488355328 by
            have h1 := rnamesL_len e.ar
            have h3 := HP.out
            have h4 : (([] : List (List UInt8))).length ≤ 1 := by simp
            rw [List.length_append]; omega)
          have HOF := Lib.hid (show wr.ownsRow w.heap.size 9 1 _ n (txV (([] : List (List UInt8)) ++ rnamesL e.ar)) by have h := HO.out; rwa [hke, List.take_length] at h)
          clear HO hke
          go_wp2_with fail
          refine (sort_own _ wr HOF.out HLEN.out hsr).mono ?_
          rintro en w6 ⟨rfl, ho6, hb6⟩
          have HO6 := Lib.hid ho6
          clear ho6
          have hr6 := hbr.trans hb6
          go_wp2_with fail
          refine (compact_own _ w6 HO6.out (by rw [sortL_len]; exact HLEN.out) hr6.size).mono ?_
          rintro en w7 ⟨v7, rfl, hv7, hb7⟩
          have HV7 := Lib.hid hv7
          clear hv7
          go_wp2_with fail
          go_ret
          exact ⟨_, rfl, by rw [HRE.out]; exact HV7.out, hr6.trans hb7⟩
end Go.Proofs.YtcmccjcelchlhaaGreatDoor
