/- The walks of rowFault, checkRow, follows, behind. · The walk of rowKey: a name and its numbers as one text. · What a sight holds: its maps. · The walk of boundFault. -/
import Derived.Test.YtpanbeoelbhhgaaGreatDoorY15
import Derived.Test.YtpanbeoelbhhgaaGreatDoorY2
import Derived.Lib.ItoaLen
import Derived.Lib.AppendIntMem
namespace Go.Proofs.YtpanbeoelbhhgaaGreatDoor
open Go.RowKit
attribute [local go_sem ↓] Go.wp_at_zero Go.wp_at_succ
set_option maxHeartbeats 1000000 in
theorem rowFault_any (row : List Int) (n : Nat) (A : Option Addr) (c B : Nat) (w : World) (_hn : n ≤ maxLen) (hl : row.length ≤ maxLen) (hx : Reads w B 1 A row.length (numV .i64 row)) :
    Calls Tryz.prog 18 #[.slice A row.length c, .int .i64 (n : Nat)] w fun e w' => e = .returned (.int .i64 (rowF row n)) ∧ w = w' := by
  unfold maxLen at hl _hn
  by_cases hne : row.length = n
  rotate_left
  · have HR := Lib.hid (show rowF row n = 3 by unfold rowF; rw [if_pos hne])
    have hne' : ((row.length : Int) != (n : Int)) = true := by simp; omega
    clear hne
    go_enter Tryz.func18, Tryz.ntmps18
    go_wp2
    go_ret
    exact ⟨ret_int (by rw [HR.out]), rfl⟩
  have HX := Lib.hid hx
  have HR := Lib.hid (show rowF row n = if row.any badCode = true then 1 else 0 by unfold rowF; rw [if_neg (fun h => h hne)])
  have hne' : ((row.length : Int) != (n : Int)) = false := by simp; omega
  clear hx
  have HNE := Lib.hid hne
  clear hne
  go_enter Tryz.func18, Tryz.ntmps18
  go_wp2
  go_loop [13, 6] (fun i _ => ∃ k : Nat, k ≤ row.length ∧ i = .int .i64 k ∧ Hid ((row.take k).any badCode = false)) (fun i _ => row.length - (intOf i).toNat)
  case atStart => exact ⟨0, Nat.zero_le _, rfl, Lib.hid rfl⟩
  case round =>
    obtain ⟨k, hk, rfl, HT⟩ := hrel
    by_cases hlt : k < row.length
    · obtain ⟨ad, rfl, -, hcell⟩ := HX.out.2 (by omega)
      have h1 : w.cell? (ad.add k) = some (.int .i64 row[k]) := hcell k _ (by rw [numV, List.getElem?_map, List.getElem?_eq_getElem hlt]; rfl)
      obtain ⟨x, hxe⟩ : ∃ x, row[k] = x := ⟨_, rfl⟩
      rw [hxe] at h1
      obtain ⟨b, hb⟩ : ∃ b, outB x 1 999 = b := ⟨_, rfl⟩
      have HH := Lib.hid (show badCode row[k] = b by rw [hxe]; exact hb)
      have HLT := Lib.hid hlt
      clear hxe hcell
      cases b
      · have HN := Lib.hid (any_step (p := badCode) HLT.out HH.out HT.out)
        go_wp2_with ((go_at_call 23; refine (outside_any _ _ _ _).mono ?_; rintro e w' ⟨rfl, rfl⟩))
        go_round
        case rel => exact ⟨k + 1, HLT.out, by go_num, HN⟩
        case measure =>
          have := HLT.out
          simp [intOf]
          omega
      · have HF := Lib.hid (show rowF row n = 1 by rw [HR.out, if_pos (any_hit (p := badCode) HLT.out HH.out)])
        go_wp2_with ((go_at_call 23; refine (outside_any _ _ _ _).mono ?_; rintro e w' ⟨rfl, rfl⟩))
        go_ret
        exact ⟨ret_int (by rw [HF.out]), rfl⟩
    · have HF := Lib.hid (show rowF row n = 0 by rw [HR.out, any_done (by omega) HT.out]; rfl)
      go_wp2
      go_ret
      exact ⟨ret_int (by rw [HF.out]), rfl⟩
set_option maxHeartbeats 1000000 in
theorem follows_any (nm nm' : ByteArray) (row row' : List Int) (A A' : Option Addr) (c c' B : Nat) (w : World) (hl : row.length ≤ maxLen) (hl' : row'.length ≤ maxLen) (hx : Reads w B 1 A row.length (numV .i64 row)) (hy : Reads w B 1 A' row'.length (numV .i64 row')) (hB : B ≤ w.heap.size) :
    Calls Tryz.prog 68 #[.string nm, .slice A row.length c, .string nm', .slice A' row'.length c'] w fun e w' => e = .returned (.int .i64 (followF nm row nm' row')) ∧ Below w.heap.size w w' := by
  have HC := Lib.hid (compareInts_any A A' row.length c row'.length c' B B row row' w hl hl' hx hy hB hB)
  have HFE := Lib.hid (show followF nm row nm' row' = followF nm row nm' row' from rfl)
  clear hl hl' hx hy hB
  obtain ⟨z, hz⟩ : ∃ z, cmpN nm row nm' row' = z := ⟨_, rfl⟩
  have hr : z = -1 ∨ z = 0 ∨ z = 1 := hz ▸ cmpN_range _ _ _ _
  obtain ⟨y, hy⟩ : ∃ y, Lib.compareBytes nm.data.toList nm'.data.toList = y := ⟨_, rfl⟩
  have HY := Lib.hid hy
  have HZ := Lib.hid hz
  by_cases h0 : y = 0
  · subst h0
    have hz2 : cmpL row row' = z := by rw [← hz]; unfold cmpN; rw [if_pos hy]
    rw [hz2] at HC
    clear hy hz hz2
    rcases hr with rfl | rfl | rfl
    · have HF := Lib.hid (show followF nm row nm' row' = 7 from HFE.out.trans (by unfold followF; rw [HZ.out]; rfl))
      go_enter Tryz.func68, Tryz.ntmps68
      go_wp2_with (go_at_call 110; refine (Tryz.strings_Compare _ _ _).mono ?_; rw [HY.out]; rintro e w' ⟨rfl, rfl⟩)
      refine HC.out.mono ?_
      rintro en w1 ⟨rfl, hb⟩
      go_wp2
      go_ret
      exact ⟨ret_int (by rw [HF.out]), hb⟩
    · have HF := Lib.hid (show followF nm row nm' row' = 6 from HFE.out.trans (by unfold followF; rw [HZ.out]; rfl))
      go_enter Tryz.func68, Tryz.ntmps68
      go_wp2_with (go_at_call 110; refine (Tryz.strings_Compare _ _ _).mono ?_; rw [HY.out]; rintro e w' ⟨rfl, rfl⟩)
      refine HC.out.mono ?_
      rintro en w1 ⟨rfl, hb⟩
      go_wp2
      go_ret
      exact ⟨ret_int (by rw [HF.out]), hb⟩
    · have HF := Lib.hid (show followF nm row nm' row' = 0 from HFE.out.trans (by unfold followF; rw [HZ.out]; rfl))
      go_enter Tryz.func68, Tryz.ntmps68
      go_wp2_with (go_at_call 110; refine (Tryz.strings_Compare _ _ _).mono ?_; rw [HY.out]; rintro e w' ⟨rfl, rfl⟩)
      refine HC.out.mono ?_
      rintro en w1 ⟨rfl, hb⟩
      go_wp2
      go_ret
      exact ⟨ret_int (by rw [HF.out]), hb⟩
  · have hyz : y = z := by rw [← hz, ← hy]; unfold cmpN; rw [if_neg (by rw [hy]; exact h0)]
    subst hyz
    clear hy hz HC
    rcases hr with rfl | rfl | rfl
    · have HF := Lib.hid (show followF nm row nm' row' = 7 from HFE.out.trans (by unfold followF; rw [HZ.out]; rfl))
      go_enter Tryz.func68, Tryz.ntmps68
      go_wp2_with (go_at_call 110; refine (Tryz.strings_Compare _ _ _).mono ?_; rw [HY.out]; rintro e w' ⟨rfl, rfl⟩)
      go_ret
      exact ⟨ret_int (by rw [HF.out]), Below.refl _ _⟩
    · exact absurd rfl h0
    · have HF := Lib.hid (show followF nm row nm' row' = 0 from HFE.out.trans (by unfold followF; rw [HZ.out]; rfl))
      go_enter Tryz.func68, Tryz.ntmps68
      go_wp2_with (go_at_call 110; refine (Tryz.strings_Compare _ _ _).mono ?_; rw [HY.out]; rintro e w' ⟨rfl, rfl⟩)
      go_ret
      exact ⟨ret_int (by rw [HF.out]), Below.refl _ _⟩
end Go.Proofs.YtpanbeoelbhhgaaGreatDoor
namespace Go.Proofs.YtpanbeoelbhhgaaGreatDoor
open Go.RowKit
attribute [local go_sem ↓] Go.wp_at_zero Go.wp_at_succ
/-- the table of strconv's decimal digits lies there -/
def Tab10 (w : World) : Prop := Lib.TabIs Tryz.prog w "internal/strconv.uint64pow10" .u64 Lib.pow10Tab
theorem Tab10.below {w w' : World} (h : Tab10 w) (hb : Below w.heap.size w w') : Tab10 w' := tabIs_below h hb
theorem bldAt_below {T e : TypeId} {B b : Nat} {p : Value} {bs : List Value} {w w' : World} (h : Lib.BuilderAt T e B b p bs w) (hb : Below w.heap.size w w') : Lib.BuilderAt T e B b p bs w' := by
  have hlt := h.lt
  obtain ⟨hB, v, hbk, hown, hne⟩ := h
  refine ⟨hB, v, (hb.block b hlt).trans hbk, ?_, hne⟩
  refine hown.kept (row := none) ⟨hb.os, hb.tape, hb.output, hb.size, fun k hk _ => hb.block k hk⟩ ?_
  cases hv : v.ownBlock with
  | none => exact .inl rfl
  | some g => exact .inr (by simp)
theorem bld_below {T e : TypeId} {B b : Nat} {bs : List Value} {w w' : World} (h : Lib.IsBuilder T e B b bs w) (hb : Below w.heap.size w w') : Lib.IsBuilder T e B b bs w' :=
  h.imp (bldAt_below · hb) (bldAt_below · hb)
theorem byteCells_app (a b : List UInt8) : Lib.byteCells a ++ Lib.byteCells b = Lib.byteCells (a ++ b) := by simp [Lib.byteCells]
def rowKeyL (nm : List UInt8) (row : List Int) : List UInt8 := nm ++ row.flatMap (fun n => 32 :: Lib.itoa n)
theorem rowKeyL_step (nm : List UInt8) (row : List Int) (k : Nat) (h : k < row.length) : rowKeyL nm (row.take (k + 1)) = rowKeyL nm (row.take k) ++ [32] ++ Lib.itoa row[k] := by
  unfold rowKeyL
  rw [List.take_succ_eq_append_getElem h, List.flatMap_append]
  simp
def codesOk (row : List Int) : Prop := ∀ n ∈ row, 1 ≤ n ∧ n ≤ 999
theorem rowKeyL_len (nm : List UInt8) : ∀ (row : List Int), codesOk row → (rowKeyL nm row).length ≤ nm.length + 22 * row.length
  | [], _ => by simp [rowKeyL]
  | a :: r, h => by
    have ih := rowKeyL_len nm r (fun n hn => h n (List.mem_cons_of_mem _ hn))
    have ha := h a (List.mem_cons_self ..)
    have h1 := Lib.itoa_length_le a (by omega) (by omega)
    unfold rowKeyL at ih ⊢
    simp only [List.flatMap_cons, List.length_append, List.length_cons] at ih ⊢
    omega
set_option maxHeartbeats 1000000 in
set_option maxRecDepth 100000 in
theorem writeByte_any (B b : Nat) (bs : List Value) (c : UInt8) (w : World) (h : Lib.IsBuilder 131 5 B b bs w) (hlen : bs.length + 1 ≤ 140737488355328) (hBw : B ≤ w.heap.size) :
    Calls Tryz.prog 70 #[.pointer (some ⟨b, 0, none⟩), .int .u8 c.toNat] w fun e w' => e = .returned .nilIface ∧ (Lib.BuilderAt 131 5 B b (.pointer (some ⟨b, 0, none⟩)) (bs ++ Lib.byteCells [c]) w' ∧ Below B w w') := by
  obtain ⟨i0, hi, hz0, hz1, hz2⟩ := info_parts infoByte
  go_enter Tryz.func70, Tryz.ntmps70
  go_wp2_with (refine (copyCheck_any B b bs _ h).mono ?_)
  rintro e w1 ⟨rfl, h1, hb1⟩
  obtain ⟨hB, v, hbk, hown, hne⟩ := h1
  have c0 : w1.cell? ⟨b, 0, none⟩ = some (.pointer (some ⟨b, 0, none⟩)) := by rw [Lib.cell_of_heap hbk]; rfl
  have c1 : w1.cell? ⟨b, 1, none⟩ = some v := by rw [Lib.cell_of_heap hbk]; rfl
  have hlt : b < w1.heap.size := by
    rcases Nat.lt_or_ge b w1.heap.size with h' | h'
    · exact h'
    · simp [Array.getElem?_eq_none h'] at hbk
  have hs1 := hb1.size
  go_wp2_with (at_builtin; refine wpList_append_own _ rfl _ _ 129 rfl B 5 i0 (.int .u8 0) 1 1 Tryz.underlying129 hi hz0 hz1 hz2 rfl (by decide) _ _ _ rfl (hown.alloc _) ⟨w1.heap.size, 0, none⟩ 1 1 [.int .u8 c.toNat] rfl rfl ?c1 ?c2 ?c3 ?c4 ?c5 ?_)
  case c1 => intro j u hj; cases j <;> simp_all [go_sem]
  case c2 => intro u hu; simp only [List.mem_singleton] at hu; subst hu; rfl
  case c3 => unfold maxLen; omega
  case c4 => omega
  case c5 => simp; omega
  intro v' w2 hown' hgrow _
  have hb2 : w2.heap[b]? = some (.cells #[.pointer (some ⟨b, 0, none⟩), v] 131 (0, 0)) := by
    rw [hgrow.block b (by simp; omega) (fun e => hne e.symm), Lib.alloc_old _ _ _ hlt]
    exact hbk
  have d0 : w2.cell? ⟨b, 0, none⟩ = some (.pointer (some ⟨b, 0, none⟩)) := by rw [Lib.cell_of_heap hb2]; rfl
  have d1 : w2.cell? ⟨b, 1, none⟩ = some v := by rw [Lib.cell_of_heap hb2]; rfl
  have f1 : w2.frozen? ⟨b, 1, none⟩ = false := Lib.frozen_of_heap hb2 1
  obtain ⟨ao, n', cap, rfl⟩ : ∃ ao n' cap, v' = .slice ao n' cap := by
    rcases hown'.2 with ⟨hv, _⟩ | ⟨g, cap, cur, hv, _⟩
    · exact ⟨_, _, _, hv⟩
    · exact ⟨_, _, _, hv⟩
  go_wp2
  go_ret
  refine ⟨rfl, ?_, ?_⟩
  · exact Lib.BuilderAt.put (T := 131) (e := 5) hB hb2 (bs' := bs ++ Lib.byteCells [c]) (by simpa [Lib.byteCells] using hown') (by decide)
  · exact ((hb1.alloc (by omega) _).grown hgrow (by simp; omega) (fun k hk => (hown.lt k hk).1)).setCell (p := ⟨b, 1, none⟩) hB _
set_option maxHeartbeats 1000000 in
set_option maxRecDepth 100000 in
theorem rowKey_any (nm : ByteArray) (row : List Int) (A : Option Addr) (c B : Nat) (w : World) (hn : nm.size ≤ 1000000) (hl : row.length ≤ 1048576) (hc : codesOk row) (hx : Reads w B 1 A row.length (numV .i64 row)) (hB : B ≤ w.heap.size) (htab : Tab10 w) :
    Calls Tryz.prog 35 #[.string nm, .slice A row.length c] w fun e w' => e = .returned (.string ⟨(rowKeyL nm.data.toList row).toArray⟩) ∧ Below w.heap.size w w' := by
  have HX := Lib.hid (And.intro hx hB)
  have HT := Lib.hid htab
  have HC := Lib.hid hc
  have hnl : nm.data.toList.length ≤ 1000000 := by simpa using hn
  have HLEN := Lib.hid (fun k => rowKeyL_len nm.data.toList (row.take k) (fun n h => hc n (List.mem_of_mem_take h)))
  clear hx hB htab hc
  go_enter Tryz.func35, Tryz.ntmps35
  go_wp2_with fail
  refine (writeString_any w.heap.size w.heap.size [] nm _ (Lib.fresh_isBuilder 131 5 w) (by simp; omega) (by simp)).mono ?_
  rintro e w1 ⟨rfl, hb1, hbw1⟩
  have hb1' : Lib.IsBuilder 131 5 w.heap.size w.heap.size (Lib.byteCells (rowKeyL nm.data.toList (row.take 0))) w1 := .inr (by have h := hb1; rw [List.nil_append, Lib.strCells_eq] at h; simpa [rowKeyL] using h)
  have HB1 := Lib.hid hb1'
  have hbw1 : Below w.heap.size w w1 := ((Below.refl _ w).alloc (Nat.le_refl _) _).trans hbw1
  clear hb1 hb1'
  go_wp2_with fail
  go_loopw [12, 7] (fun i _ wr => ∃ k : Nat, k ≤ row.length ∧ i = .int .i64 k ∧ Hid (Lib.IsBuilder 131 5 w.heap.size w.heap.size (Lib.byteCells (rowKeyL nm.data.toList (row.take k))) wr) ∧ Below w.heap.size w wr) (fun i _ _ => row.length - (intOf i).toNat)
  case atStart => exact ⟨0, Nat.zero_le _, rfl, HB1, hbw1⟩
  case round =>
    obtain ⟨k, hk, rfl, HBD, hbr⟩ := hrel
    clear HB1 hbw1
    by_cases hlt : k < row.length
    · obtain ⟨ad, rfl, -, hcell⟩ := (HX.out.1.below (hbr.mono HX.out.2)).2 (by omega)
      have h1 : wr.cell? (ad.add k) = some (.int .i64 row[k]) := hcell k _ (by rw [numV, List.getElem?_map, List.getElem?_eq_getElem hlt]; rfl)
      have HST := Lib.hid (rowKeyL_step nm.data.toList row k hlt)
      obtain ⟨x, hxe⟩ : ∃ x, row[k] = x := ⟨_, rfl⟩
      have hx2 : 1 ≤ x ∧ x ≤ 999 := hxe ▸ HC.out _ (List.getElem_mem hlt)
      rw [hxe] at h1 HST
      have HLT := Lib.hid hlt
      have HXX := Lib.hid hx2
      have HIL := Lib.hid (Lib.itoa_length_le x (by omega) (by omega))
      have HL1 := Lib.hid (show (rowKeyL nm.data.toList (row.take k)).length ≤ 1000000 + 22 * 1048576 by
        have h := HLEN.out k
        rw [List.length_take] at h
        omega)
      clear hcell hxe hx2
      go_wp2_with fail
      refine (writeByte_any w.heap.size w.heap.size _ 32 wr HBD.out (by rw [Lib.byteCells_length]; have := HL1.out; omega) hbr.size).mono ?_
      rintro e w2 ⟨rfl, hb2, hbw2⟩
      have HB2 := Lib.hid hb2
      have hbr2 := hbr.trans hbw2
      clear hb2 hbw2
      go_wp2_with fail
      refine (Tryz.strconv_Itoa x (by have := HXX.out; omega) (by have := HXX.out; omega) w2 (HT.out.below hbr2)).mono ?_
      rintro e w3 ⟨rfl, kk, os, hw3⟩
      have hb23 : Below w2.heap.size w2 w3 := hw3 ▸ Lib.below_grow _ w2 (Nat.le_refl _) _ _
      have hbr3 := hbr2.trans (hb23.mono hbr2.size)
      have HB3 := Lib.hid (bld_below (.inr HB2.out) hb23)
      clear hw3 hb23
      go_wp2_with fail
      have HSZ := Lib.hid (show (Lib.byteCells (rowKeyL nm.data.toList (row.take k)) ++ Lib.byteCells [32]).length + (⟨(Lib.itoa x).toArray⟩ : ByteArray).size ≤ 140737488355328 by
        rw [List.length_append, Lib.byteCells_length, Lib.byteCells_length, show (⟨(Lib.itoa x).toArray⟩ : ByteArray).size = (Lib.itoa x).length by simp [ByteArray.size]]
        have := HL1.out
        have := HIL.out
        simp
        omega)
      refine (writeString_any w.heap.size w.heap.size _ _ w3 HB3.out HSZ.out hbr3.size).mono ?_
      rintro e w4 ⟨rfl, hb4, hbw4⟩
      rw [Lib.strCells_toArray, byteCells_app, byteCells_app, ← HST.out] at hb4
      have HB4 := Lib.hid (show Lib.IsBuilder 131 5 w.heap.size w.heap.size (Lib.byteCells (rowKeyL nm.data.toList (row.take (k + 1)))) w4 from .inr hb4)
      have hbr4 := hbr3.trans hbw4
      clear hb4 hbw4
      go_wp2_with fail
      go_roundw
      case rel => exact ⟨k + 1, HLT.out, by go_num, HB4, hbr4⟩
      case measure =>
        have := HLT.out
        simp [intOf]
        omega
    · have e1 : row.take k = row := List.take_of_length_le (by omega)
      have HBE := Lib.hid (show Lib.IsBuilder 131 5 w.heap.size w.heap.size (Lib.byteCells (rowKeyL nm.data.toList row)) wr by have h := HBD.out; rwa [e1] at h)
      clear e1 HBD
      go_wp2_with fail
      refine (Tryz.Builder_String_any w.heap.size w.heap.size _ wr HBE.out hbr.size).mono ?_
      rintro e w2 ⟨rfl, hb2⟩
      go_wp2_with fail
      go_ret
      exact ⟨rfl, hbr.trans hb2⟩
end Go.Proofs.YtpanbeoelbhhgaaGreatDoor
namespace Go.Proofs.YtpanbeoelbhhgaaGreatDoor
open Go.RowKit
attribute [local go_sem ↓] Go.wp_at_zero Go.wp_at_succ
def bKey (d : BoundD) : ByteArray := ⟨(rowKeyL d.nm.data.toList d.row).toArray⟩
def rKey (d : RowD) : ByteArray := ⟨(rowKeyL d.nm.data.toList d.row).toArray⟩
/-- what a map holds beside a list, in the same order -/
inductive Rel2 {α : Type} (P : ByteArray → Value → α → Prop) : List (ByteArray × Value) → List α → Prop
  | nil : Rel2 P [] []
  | cons {s : ByteArray} {v : Value} {a : α} {kv : List (ByteArray × Value)} {l : List α} (h : P s v a) (t : Rel2 P kv l) : Rel2 P ((s, v) :: kv) (a :: l)
theorem Rel2.imp {α : Type} {P Q : ByteArray → Value → α → Prop} (hPQ : ∀ s v a, P s v a → Q s v a) : ∀ {kv : List (ByteArray × Value)} {l : List α}, Rel2 P kv l → Rel2 Q kv l
  | _, _, .nil => .nil
  | _, _, .cons h t => .cons (hPQ _ _ _ h) (t.imp hPQ)
theorem Rel2.len {α : Type} {P : ByteArray → Value → α → Prop} : ∀ {kv : List (ByteArray × Value)} {l : List α}, Rel2 P kv l → kv.length = l.length
  | _, _, .nil => rfl
  | _, _, .cons _ t => by simp [t.len]
def boundP (w : World) (B : Nat) (s : ByteArray) (v : Value) (d : BoundD) : Prop := s = bKey d ∧ ∃ cs : List Value, v = .agg cs.toArray ∧ BoundAt w B d cs
def rowP (w : World) (B : Nat) (s : ByteArray) (v : Value) (d : RowD) : Prop := s = rKey d ∧ ∃ A c, v = .slice A d.nums.length c ∧ Reads w B 1 A d.nums.length (numV .i64 d.nums) ∧ d.nums.length ≤ maxLen
structure KvB (w : World) (B : Nat) (kv : List (ByteArray × Value)) (l : List BoundD) : Prop where
  rel : Rel2 (boundP w B) kv l.reverse
structure KvR (w : World) (B : Nat) (kv : List (ByteArray × Value)) (l : List RowD) : Prop where
  rel : Rel2 (rowP w B) kv l.reverse
theorem KvB.len {w : World} {B : Nat} {kv : List (ByteArray × Value)} {l : List BoundD} (h : KvB w B kv l) : kv.length = l.length := by rw [h.rel.len, List.length_reverse]
theorem KvR.len {w : World} {B : Nat} {kv : List (ByteArray × Value)} {l : List RowD} (h : KvR w B kv l) : kv.length = l.length := by rw [h.rel.len, List.length_reverse]
theorem KvB.keep {w w' : World} {B : Nat} {kv : List (ByteArray × Value)} {l : List BoundD} (h : KvB w B kv l) (hb : Below B w w') : KvB w' B kv l :=
  ⟨h.rel.imp fun _ _ _ ⟨h1, cs, h2, h3⟩ => ⟨h1, cs, h2, h3.keep hb⟩⟩
theorem KvR.keep {w w' : World} {B : Nat} {kv : List (ByteArray × Value)} {l : List RowD} (h : KvR w B kv l) (hb : Below B w w') : KvR w' B kv l :=
  ⟨h.rel.imp fun _ _ _ ⟨h1, A, c, h2, h3, h4⟩ => ⟨h1, A, c, h2, h3.below hb, h4⟩⟩
theorem KvB.put {w : World} {B : Nat} {kv : List (ByteArray × Value)} {l : List BoundD} (h : KvB w B kv l) {d : BoundD} {cs : List Value} (hd : BoundAt w B d cs) : KvB w B ((bKey d, .agg cs.toArray) :: kv) (l ++ [d]) :=
  ⟨by rw [List.reverse_append]; exact .cons ⟨rfl, cs, rfl, hd⟩ h.rel⟩
theorem KvR.put {w : World} {B : Nat} {kv : List (ByteArray × Value)} {l : List RowD} (h : KvR w B kv l) {d : RowD} {A : Option Addr} {c : Nat} (hd : Reads w B 1 A d.nums.length (numV .i64 d.nums)) (hl : d.nums.length ≤ maxLen) : KvR w B ((rKey d, .slice A d.nums.length c) :: kv) (l ++ [d]) :=
  ⟨by rw [List.reverse_append]; exact .cons ⟨rfl, A, c, rfl, hd, hl⟩ h.rel⟩
/-- a sight, as it lies there -/
structure SiAt (w : World) (B gs m1 m2 m3 m4 : Nat) (kv1 kv2 kv3 kv4 : List (ByteArray × Value)) (cells : List CellD) (loops : List NestD) (lb : List BoundD) (lr : List RowD) : Prop where
  blk : Blk w gs 61 #[.map (some m1), .map (some m2), .map (some m3), .map (some m4)]
  ty : TyW w B m1 m2 kv1 kv2 cells loops
  m3m : MapIs w m3 kv3
  m4m : MapIs w m4 kv4
  kb : KvB w B kv3 lb
  kr : KvR w B kv4 lr
  ne : gs ≠ m3 ∧ gs ≠ m4 ∧ m1 ≠ m3 ∧ m1 ≠ m4 ∧ m2 ≠ m3 ∧ m2 ≠ m4 ∧ m3 ≠ m4 ∧ B ≤ m3 ∧ B ≤ m4 ∧ B ≤ w.heap.size
theorem SiAt.keep {w w' : World} {B gs m1 m2 m3 m4 : Nat} {kv1 kv2 kv3 kv4 : List (ByteArray × Value)} {cells : List CellD} {loops : List NestD} {lb : List BoundD} {lr : List RowD} (h : SiAt w B gs m1 m2 m3 m4 kv1 kv2 kv3 kv4 cells loops lb lr) (hb : Below w.heap.size w w') : SiAt w' B gs m1 m2 m3 m4 kv1 kv2 kv3 kv4 cells loops lb lr := by
  obtain ⟨a, b, c, d, e, f, n⟩ := h
  have hB := n.2.2.2.2.2.2.2.2.2
  exact ⟨a.below hb a.lt, b.keep hb hB, c.below hb c.lt, d.below hb d.lt, e.keep (hb.mono hB), f.keep (hb.mono hB), n.1, n.2.1, n.2.2.1, n.2.2.2.1, n.2.2.2.2.1, n.2.2.2.2.2.1, n.2.2.2.2.2.2.1, n.2.2.2.2.2.2.2.1, n.2.2.2.2.2.2.2.2.1, Nat.le_trans hB hb.size⟩
theorem below_grownB {B : Nat} {w w' : World} {row : Option Nat} (hg : w.grownBy w' row) (hB : B ≤ w.heap.size) (hr : ∀ k, row = some k → B ≤ k) : Below B w w' := (Below.refl B w).grown hg hB hr
theorem SiAt.put3 {w w' : World} {B gs m1 m2 m3 m4 : Nat} {kv1 kv2 kv3 kv4 : List (ByteArray × Value)} {cells : List CellD} {loops : List NestD} {lb : List BoundD} {lr : List RowD} (h : SiAt w B gs m1 m2 m3 m4 kv1 kv2 kv3 kv4 cells loops lb lr) (hg : w.grownBy w' (some m3)) {d : BoundD} {cs : List Value} (hd : BoundAt w B d cs) (hm : MapIs w' m3 ((bKey d, .agg cs.toArray) :: kv3)) : SiAt w' B gs m1 m2 m3 m4 kv1 kv2 ((bKey d, .agg cs.toArray) :: kv3) kv4 cells loops (lb ++ [d]) lr := by
  obtain ⟨a, b, c, f, e, g, n1, n2, n3, n4, n5, n6, n7, n8, n9, hB⟩ := h
  have hbB : Below B w w' := below_grownB hg hB (fun k hk => by injection hk with hk; omega)
  refine ⟨a.grown hg (fun e => n1 (by injection e)), ⟨b.c.kept hg (fun e => n3 (by injection e)), b.cc.keep hbB, b.n.kept hg (fun e => n5 (by injection e)), b.nn.keep hbB⟩, hm, f.kept hg (fun e => n7 (by injection e with e; exact e.symm)), (e.put hd).keep hbB, g.keep hbB, n1, n2, n3, n4, n5, n6, n7, n8, n9, Nat.le_trans hB hg.size⟩
theorem SiAt.put4 {w w' : World} {B gs m1 m2 m3 m4 : Nat} {kv1 kv2 kv3 kv4 : List (ByteArray × Value)} {cells : List CellD} {loops : List NestD} {lb : List BoundD} {lr : List RowD} (h : SiAt w B gs m1 m2 m3 m4 kv1 kv2 kv3 kv4 cells loops lb lr) (hg : w.grownBy w' (some m4)) {d : RowD} {A : Option Addr} {c : Nat} (hd : Reads w B 1 A d.nums.length (numV .i64 d.nums)) (hl : d.nums.length ≤ maxLen) (hm : MapIs w' m4 ((rKey d, .slice A d.nums.length c) :: kv4)) : SiAt w' B gs m1 m2 m3 m4 kv1 kv2 kv3 ((rKey d, .slice A d.nums.length c) :: kv4) cells loops lb (lr ++ [d]) := by
  obtain ⟨a, b, c3, f, e, g, n1, n2, n3, n4, n5, n6, n7, n8, n9, hB⟩ := h
  have hbB : Below B w w' := below_grownB hg hB (fun k hk => by injection hk with hk; omega)
  refine ⟨a.grown hg (fun e => n2 (by injection e)), ⟨b.c.kept hg (fun e => n4 (by injection e)), b.cc.keep hbB, b.n.kept hg (fun e => n6 (by injection e)), b.nn.keep hbB⟩, c3.kept hg (fun e => n7 (by injection e)), hm, e.keep hbB, (g.put hd hl).keep hbB, n1, n2, n3, n4, n5, n6, n7, n8, n9, Nat.le_trans hB hg.size⟩
/-- 'm[s] = v' as an equation -/
theorem MapIs.put {w : World} {b : Nat} {kv : List (ByteArray × Value)} (h : MapIs w b kv) {t e : TypeId} (ht : Tryz.prog.underlying t = some (.map 9 e)) (hn : kv.length < maxLen) {s : ByteArray} (hs : s.size ≤ maxLen) (val : Value) :
    ∃ w', (Instr.mapUpdate t (.map (some b)) (.string s) val).run Tryz.prog w = .ok () w' ∧ MapIs w' b ((s, val) :: kv) ∧ w.grownBy w' (some b) := by
  obtain ⟨D, h1, h2, h3⟩ := h.ex
  obtain ⟨w', hrun, h4, h5⟩ := h1.update (Maps.string_keyed Tryz.underlying9) ht hn (key := .string s) (val := val) (keyS hs) (d := .held val) (ps := []) rfl
  exact ⟨w', hrun, MapIs.store h2 h3 h4, h5⟩
theorem world_ok {cells : List CellD} {loops : List NestD} (h : worldF cells loops = 0) : (∀ c ∈ cells, c.nm.size ≤ 16) ∧ (∀ n ∈ loops, n.nm.size ≤ 16) := by
  have hsz : ∀ s : ByteArray, isNameF s.data.toList = true → s.size ≤ 16 := by
    intro s h
    unfold isNameF at h
    simp only [Bool.and_eq_true, decide_eq_true_iff] at h
    have := h.1.1.1.2
    simpa using this
  unfold worldF at h
  by_cases c1 : firstF cellFault [] cells = 0
  · rw [if_neg (by rw [c1]; decide)] at h
    by_cases c2 : firstF nestFault [] loops = 0
    · refine ⟨fun c hc => ?_, fun c hc => ?_⟩
      · obtain ⟨i, hi, rfl⟩ := List.mem_iff_getElem.1 hc
        have := firstF_ok c1 i hi
        unfold cellFault at this
        split at this
        · exact absurd this (by decide)
        · rename_i hk; exact hsz _ (by simpa using hk)
      · obtain ⟨i, hi, rfl⟩ := List.mem_iff_getElem.1 hc
        have := firstF_ok c2 i hi
        unfold nestFault at this
        split at this
        · exact absurd this (by decide)
        · rename_i hk; exact hsz _ (by simpa using hk)
    · rw [if_pos c2] at h; exact absurd h c2
  · rw [if_pos c1] at h; exact absurd h c1
theorem rowF_ok {row : List Int} {n : Nat} (h : rowF row n = 0) : row.length = n ∧ codesOk row := by
  unfold rowF at h
  split at h
  · exact absurd h (by decide)
  rename_i h1
  split at h
  · exact absurd h (by decide)
  rename_i h2
  refine ⟨Decidable.not_not.1 h1, fun x hx => ?_⟩
  have hb : badCode x = false := by
    cases hbx : badCode x with
    | false => rfl
    | true => exact absurd (List.any_eq_true.2 ⟨x, hx, hbx⟩) h2
  exact outB_no hb
theorem bound_ok {cells : List CellD} {prev : List BoundD} {b : BoundD} (hn : ∀ c ∈ cells, c.nm.size ≤ 16) (hl : ∀ c ∈ cells, c.loops.length ≤ 1048576) (h : boundF cells prev b = 0) : b.nm.size ≤ 16 ∧ b.row.length ≤ 1048576 ∧ codesOk b.row := by
  unfold boundF at h
  split at h
  · exact absurd h (by decide)
  rename_i c hc
  have hm := List.mem_of_find?_eq_some hc
  have hq := List.find?_some hc
  rw [decide_eq_true_iff] at hq
  by_cases h0 : rowF b.row c.loops.length = 0
  · obtain ⟨h1, h2⟩ := rowF_ok h0
    exact ⟨by rw [← hq]; exact hn c hm, by rw [h1]; exact hl c hm, h2⟩
  · rw [if_pos h0] at h; exact absurd h h0
theorem rows_ok {loops : List NestD} {prev : List RowD} {b : RowD} (hn : ∀ c ∈ loops, c.nm.size ≤ 16) (hl : ∀ c ∈ loops, c.loops.length ≤ 1048576) (h : rowsF loops prev b = 0) : b.nm.size ≤ 16 ∧ b.row.length ≤ 1048576 ∧ codesOk b.row := by
  unfold rowsF at h
  split at h
  · exact absurd h (by decide)
  rename_i c hc
  have hm := List.mem_of_find?_eq_some hc
  have hq := List.find?_some hc
  rw [decide_eq_true_iff] at hq
  by_cases h0 : rowF b.row c.loops.length = 0
  · obtain ⟨h1, h2⟩ := rowF_ok h0
    exact ⟨by rw [← hq]; exact hn c hm, by rw [h1]; exact hl c hm, h2⟩
  · rw [if_pos h0] at h; exact absurd h h0
theorem firstF_step {α : Type} (f : List α → α → Int) (l : List α) (k : Nat) (h : k < l.length) : firstF f (l.take k) (l.drop k) = if f (l.take k) l[k] ≠ 0 then f (l.take k) l[k] else firstF f (l.take (k + 1)) (l.drop (k + 1)) := by
  rw [List.drop_eq_getElem_cons h, firstF, List.take_succ_eq_append_getElem h]
end Go.Proofs.YtpanbeoelbhhgaaGreatDoor
namespace Go.Proofs.YtpanbeoelbhhgaaGreatDoor
open Go.RowKit
attribute [local go_sem ↓] Go.wp_at_zero Go.wp_at_succ
theorem cellF_map {w : World} {B : Nat} {kv : List (ByteArray × Value)} {l : List CellD} (h : KvC w B kv l) (s : ByteArray) :
    (getK kv s = none ∧ l.find? (fun c => decide (c.nm = s)) = none) ∨ ∃ d cs, getK kv s = some (.agg cs.toArray) ∧ CellAt w B d cs ∧ d ∈ l ∧ l.find? (fun c => decide (c.nm = s)) = some d := by
  cases hg : getK kv s with
  | none => exact .inl ⟨rfl, find_none (fun d hd => by have := h.no s hg d hd; simp [this])⟩
  | some v =>
    obtain ⟨d, cs, h1, h2, h3, h4⟩ := h.yes s v hg
    refine .inr ⟨d, cs, by rw [h3], h4, h1, ?_⟩
    cases hf : l.find? (fun c => decide (c.nm = s)) with
    | none => exact absurd (List.find?_eq_none.1 hf d h1) (by simp [h2])
    | some x =>
      have hx := List.find?_some hf
      rw [decide_eq_true_iff] at hx
      have := one_of (f := CellD.nm) h.one (List.mem_of_find?_eq_some hf) h1 (by rw [hx, h2])
      subst this; rfl
set_option maxHeartbeats 4000000 in
set_option maxRecDepth 100000 in
theorem boundFault_any (cells : List CellD) (loops : List NestD) (kv1 kv2 : List (ByteArray × Value)) (m1 m2 m3 m4 gs B : Nat) (bounds : List BoundD) (AL : Option Addr) (cl i : Nat) (hi : i < bounds.length) (w : World) (hS : Blk w gs 61 #[.map (some m1), .map (some m2), .map (some m3), .map (some m4)]) (hw : TyW w B m1 m2 kv1 kv2 cells loops) (hL : BoundsAt w B AL bounds) (hB : B ≤ w.heap.size) :
    Calls Tryz.prog 34 #[.pointer (some ⟨gs, 0, none⟩), .slice AL bounds.length cl, .int .i64 (i : Nat)] w fun e w' => e = .returned (.int .i64 (boundF cells (bounds.take i) bounds[i])) ∧ Below w.heap.size w w' := by
  have HWW := Lib.hid hw
  have HL := Lib.hid (And.intro hL hB)
  have hll := hL.1
  unfold maxLen at hll
  obtain ⟨ad, ci, rfl, hb, hci, hcell⟩ := hL.at_ hi
  obtain ⟨b, hbe⟩ : ∃ b, bounds[i] = b := ⟨_, rfl⟩
  rw [hbe] at hci ⊢
  have HBE := Lib.hid hbe
  have HI := Lib.hid hi
  obtain ⟨⟨A1, c1, A2, c2, rfl, hr1, hr2⟩, hx1, hx2, hx3, hx4⟩ := hci
  have HBX := Lib.hid (And.intro hx1 (And.intro hx2 (And.intro hx3 (And.intro hx4 (And.intro hr1 hr2)))))
  have fc0 : w.cell? (ad.add (i * 7)) = some (.string b.nm) := hcell 0 _ rfl
  have fc1 : w.cell? ⟨(ad.add (i * 7)).block, (ad.add (i * 7)).off + 1, none⟩ = some (.slice A1 b.row.length c1) := hcell 1 _ rfl
  have fc2 : w.cell? ⟨(ad.add (i * 7)).block, (ad.add (i * 7)).off + 2, none⟩ = some (.int .i64 b.v.k) := hcell 2 _ rfl
  have fc3 : w.cell? ⟨(ad.add (i * 7)).block, (ad.add (i * 7)).off + 3, none⟩ = some (.int .i64 b.v.n) := hcell 3 _ rfl
  have fc4 : w.cell? ⟨(ad.add (i * 7)).block, (ad.add (i * 7)).off + 4, none⟩ = some (.string b.v.s) := hcell 4 _ rfl
  have fc5 : w.cell? ⟨(ad.add (i * 7)).block, (ad.add (i * 7)).off + 5, none⟩ = some (.slice A2 b.v.l.length c2) := hcell 5 _ rfl
  have fc6 : w.cell? ⟨(ad.add (i * 7)).block, (ad.add (i * 7)).off + 6, none⟩ = some (.bool b.asked) := hcell 6 _ rfl
  have HN := Lib.hid (cellF_map hw.cc b.nm)
  have hi0 : (0 : Int) ≤ (i : Nat) := by omega
  have hi1 : (i : Int) < (bounds.length : Nat) := by omega
  have hgs := hS.lt
  clear hw hL hB hcell hbe hx1 hx2 hx3 hx4 hr1 hr2 hb
  go_enter Tryz.func34, Tryz.ntmps34
  go_upto_region 2 with (fail)
  obtain ⟨W, hW⟩ : ∃ W, W = (w.alloc (.cells #[.string b.nm, .slice A1 b.row.length c1, .int .i64 b.v.k, .int .i64 b.v.n, .string b.v.s, .slice A2 b.v.l.length c2, .bool b.asked] 88 (0, 0))) := ⟨_, rfl⟩
  have hbw : Below w.heap.size w W := by rw [hW]; exact ((Below.refl _ w).alloc (Nat.le_refl _) _)
  have B0 : Blk W (w.heap.size) 88 #[.string b.nm, .slice A1 b.row.length c1, .int .i64 b.v.k, .int .i64 b.v.n, .string b.v.s, .slice A2 b.v.l.length c2, .bool b.asked] := by
    rw [hW]
    have := Blk.new w 88 #[.string b.nm, .slice A1 b.row.length c1, .int .i64 b.v.k, .int .i64 b.v.n, .string b.v.s, .slice A2 b.v.l.length c2, .bool b.asked]
    exact this
  have hsz : W.heap.size = w.heap.size + 1 := by rw [hW]; simp
  rw [← hW]
  have B1 := B0
  have B0 : Blk W gs 61 #[.map (some m1), .map (some m2), .map (some m3), .map (some m4)] := hS.below hbw hS.lt
  have sc0 : W.cell? ⟨gs, 0, none⟩ = some (.map (some m1)) := B0.cell 0
  have yc0 : W.cell? ⟨w.heap.size, 0, none⟩ = some (.string b.nm) := B1.cell 0
  have HM1 := Lib.hid (HWW.out.c.below hbw HWW.out.c.lt)
  have HB1 := Lib.hid B1
  clear hW hsz B1  fc0 fc1 fc2 fc3 fc4 fc5 fc6
  rcases HN.out with ⟨hg, hf⟩ | ⟨d, ds, hg, hd, hdl, hf⟩
  · skip
    have hlk : ∀ w', Below W.heap.size W w' → (Instr.lookup 54 (.map (some m1)) (.string b.nm) true).run Tryz.prog w' = .ok (.tuple #[.agg #[.string ⟨#[]⟩, .int .i64 0, .slice none 0 0], .bool false]) w' := fun w' hb' => by
      have h := (HM1.out.below hb' HM1.out.lt).look Tryz.underlying54 (zeroCell w') HBX.out.1
      rw [hg] at h
      exact h
    have HLK := Lib.hid hlk
    have HF := Lib.hid hf
    have hl0 := HLK.out W (Below.refl _ _)
    have hbr := Below.refl W.heap.size W
    have HKQ := Lib.hid (fun w' (hq : Below W.heap.size W w') => And.intro (Below.cell_of hq sc0) (And.intro (Below.cell_of hq yc0) (And.intro (HLK.out w' hq) hq)))
    clear hlk hf hg
    go_region_held3 (fun w' => w'.cell? ⟨gs, 0, none⟩ = some (.map (some m1)) ∧ w'.cell? ⟨w.heap.size, 0, none⟩ = some (.string b.nm) ∧ (Instr.lookup 54 (.map (some m1)) (.string b.nm) true).run Tryz.prog w' = .ok (.tuple #[.agg #[.string ⟨#[]⟩, .int .i64 0, .slice none 0 0], .bool false]) w' ∧ Below W.heap.size W w') (first | exact HKQ.out _ hbr.drew | exact HKQ.out _ (hbr.alloc (Nat.le_refl _) _) | exact HKQ.out _ (hbr.alloc (Nat.le_refl _) _).drew | exact HKQ.out _ (hbr.drew.alloc (Nat.le_refl _) _) | exact HKQ.out _ hbr) (fail)
    all_goals
      obtain ⟨W2, hW2⟩ : ∃ W2, W2 = (W.alloc (.cells #[.string ⟨#[]⟩, .int .i64 0, .slice none 0 0] 101 (0, 0))).drew := ⟨_, rfl⟩
      have hb2 : Below W.heap.size W W2 := hW2 ▸ ((Below.refl _ W).alloc (Nat.le_refl _) _).drew
      have hbw2 := hbw.trans (hb2.mono hbw.size)
      have B2 : Blk W2 W.heap.size 101 #[.string ⟨#[]⟩, .int .i64 0, .slice none 0 0] := hW2 ▸ (Blk.new W _ _).drew
      rw [← hW2]
      clear hW2 hl0 HKQ HLK sc0
      have B0 := B0.below hb2 B0.lt
      have HK2 := Lib.hid (show boundF cells (bounds.take i) b = 5 by unfold boundF; rw [HF.out])
      clear hb2 B2 B0
      go_wp2_with (fail)
      go_ret
      exact ⟨ret_int (by rw [HK2.out]), hbw2⟩
  · obtain ⟨⟨A', c', rfl, hdx, hdc⟩, hd1, hd2, hd3⟩ := hd
    have HDX := Lib.hid hd2
    clear hdx hd2 hd3
    have hlk : ∀ w', Below W.heap.size W w' → (Instr.lookup 54 (.map (some m1)) (.string b.nm) true).run Tryz.prog w' = .ok (.tuple #[.agg #[.string d.nm, .int .i64 d.kind, .slice A' d.loops.length c'], .bool true]) w' := fun w' hb' => by
      have h := (HM1.out.below hb' HM1.out.lt).look Tryz.underlying54 (zeroCell w') HBX.out.1
      rw [hg] at h
      exact h
    have HLK := Lib.hid hlk
    have HF := Lib.hid hf
    have hl0 := HLK.out W (Below.refl _ _)
    have hbr := Below.refl W.heap.size W
    have HKQ := Lib.hid (fun w' (hq : Below W.heap.size W w') => And.intro (Below.cell_of hq sc0) (And.intro (Below.cell_of hq yc0) (And.intro (HLK.out w' hq) hq)))
    clear hlk hf hg
    go_region_held3 (fun w' => w'.cell? ⟨gs, 0, none⟩ = some (.map (some m1)) ∧ w'.cell? ⟨w.heap.size, 0, none⟩ = some (.string b.nm) ∧ (Instr.lookup 54 (.map (some m1)) (.string b.nm) true).run Tryz.prog w' = .ok (.tuple #[.agg #[.string d.nm, .int .i64 d.kind, .slice A' d.loops.length c'], .bool true]) w' ∧ Below W.heap.size W w') (first | exact HKQ.out _ hbr.drew | exact HKQ.out _ (hbr.alloc (Nat.le_refl _) _) | exact HKQ.out _ (hbr.alloc (Nat.le_refl _) _).drew | exact HKQ.out _ (hbr.drew.alloc (Nat.le_refl _) _) | exact HKQ.out _ hbr) (fail)
    all_goals
      obtain ⟨W2, hW2⟩ : ∃ W2, W2 = (W.alloc (.cells #[.string d.nm, .int .i64 d.kind, .slice A' d.loops.length c'] 101 (0, 0))).drew := ⟨_, rfl⟩
      have hb2 : Below W.heap.size W W2 := hW2 ▸ ((Below.refl _ W).alloc (Nat.le_refl _) _).drew
      have hbw2 := hbw.trans (hb2.mono hbw.size)
      have B2 : Blk W2 W.heap.size 101 #[.string d.nm, .int .i64 d.kind, .slice A' d.loops.length c'] := hW2 ▸ (Blk.new W _ _).drew
      rw [← hW2]
      clear hW2 hl0 HKQ HLK sc0
      have B0 := B0.below hb2 B0.lt
      have B1 := HB1.out.below hb2 HB1.out.lt
      have hB2 : Below B w W2 := hbw2.mono HL.out.2
      clear hb2
      obtain ⟨f1, hf1⟩ : ∃ f, rowF b.row d.loops.length = f := ⟨_, rfl⟩
      have HF1 := Lib.hid hf1
      have HRF := Lib.hid (rowFault_any b.row d.loops.length A1 c1 B W2 HDX.out HBX.out.2.1 (HBX.out.2.2.2.2.1.below hB2))
      rw [hf1] at HRF
      have xc0 : W2.cell? ⟨w.heap.size, 0, none⟩ = some (.string b.nm) := B1.cell 0
      have xc1 : W2.cell? ⟨w.heap.size, 1, none⟩ = some (.slice A1 b.row.length c1) := B1.cell 1
      have xc2 : W2.cell? ⟨w.heap.size, 2, none⟩ = some (.int .i64 b.v.k) := B1.cell 2
      have xc3 : W2.cell? ⟨w.heap.size, 3, none⟩ = some (.int .i64 b.v.n) := B1.cell 3
      have xc4 : W2.cell? ⟨w.heap.size, 4, none⟩ = some (.string b.v.s) := B1.cell 4
      have xc5 : W2.cell? ⟨w.heap.size, 5, none⟩ = some (.slice A2 b.v.l.length c2) := B1.cell 5
      have xc6 : W2.cell? ⟨w.heap.size, 6, none⟩ = some (.bool b.asked) := B1.cell 6
      have dl : W2.cell? ⟨W.heap.size, 2, none⟩ = some (.slice A' d.loops.length c') := B2.cell 2
      have dk : W2.cell? ⟨W.heap.size, 1, none⟩ = some (.int .i64 d.kind) := B2.cell 1
      clear hf1 yc0
      go_wp2_with fail
      refine HRF.out.mono ?_
      rintro en w' ⟨rfl, rfl⟩
      by_cases h0 : f1 = 0
      rotate_left
      · have bg : (f1 != 0) = true := by simpa using h0
        have HK := Lib.hid (show boundF cells (bounds.take i) b = f1 by unfold boundF; rw [HF.out]; show (if rowF b.row d.loops.length ≠ 0 then _ else _) = _; rw [HF1.out, if_pos h0])
        clear h0
        go_wp2_with fail
        go_ret
        exact ⟨ret_int (by rw [HK.out]), hbw2⟩
      subst h0
      obtain ⟨f2, hf2⟩ : ∃ f, checkV b.v = f := ⟨_, rfl⟩
      have HF2 := Lib.hid hf2
      have HCK := Lib.hid (check_any b.v A2 c2 B W2 HBX.out.2.2.2.1 HBX.out.2.2.1 (HBX.out.2.2.2.2.2.below hB2) (Nat.le_trans HL.out.2 hbw2.size))
      rw [hf2] at HCK
      clear hf2 HRF
      go_wp2_with fail
      refine HCK.out.mono ?_
      rintro en W3 ⟨rfl, hb3⟩
      have hbw3 := hbw2.trans (hb3.mono hbw2.size)
      have B1 := B1.below hb3 B1.lt
      have B2 := B2.below hb3 B2.lt
      clear HCK xc0 xc1 xc2 xc3 xc4 xc5 xc6 dl dk
      have xc0 : W3.cell? ⟨w.heap.size, 0, none⟩ = some (.string b.nm) := B1.cell 0
      have xc1 : W3.cell? ⟨w.heap.size, 1, none⟩ = some (.slice A1 b.row.length c1) := B1.cell 1
      have xc2 : W3.cell? ⟨w.heap.size, 2, none⟩ = some (.int .i64 b.v.k) := B1.cell 2
      have xc3 : W3.cell? ⟨w.heap.size, 3, none⟩ = some (.int .i64 b.v.n) := B1.cell 3
      have xc4 : W3.cell? ⟨w.heap.size, 4, none⟩ = some (.string b.v.s) := B1.cell 4
      have xc5 : W3.cell? ⟨w.heap.size, 5, none⟩ = some (.slice A2 b.v.l.length c2) := B1.cell 5
      have xc6 : W3.cell? ⟨w.heap.size, 6, none⟩ = some (.bool b.asked) := B1.cell 6
      have dk : W3.cell? ⟨W.heap.size, 1, none⟩ = some (.int .i64 d.kind) := B2.cell 1
      by_cases h0 : f2 = 0
      rotate_left
      · have bg : (f2 != 0) = true := by simpa using h0
        have HK := Lib.hid (show boundF cells (bounds.take i) b = f2 by unfold boundF; rw [HF.out]; show (if rowF b.row d.loops.length ≠ 0 then _ else _) = _; rw [HF1.out, if_neg (by decide), HF2.out, if_pos h0])
        clear h0
        go_wp2_with fail
        go_ret
        exact ⟨ret_int (by rw [HK.out]), hbw3⟩
      subst h0
      have HQ1 := Lib.hid (show boundF cells (bounds.take i) b = if 1 < b.v.k ∧ b.v.k ≠ d.kind then 8 else (match (bounds.take i).getLast? with | none => 0 | some p => followF b.nm b.row p.nm p.row) by unfold boundF; rw [HF.out]; show (if rowF b.row d.loops.length ≠ 0 then _ else _) = _; rw [HF1.out, if_neg (by decide), HF2.out, if_neg (by decide)]; rfl)
      by_cases hk1 : 1 < b.v.k
      · by_cases hk2 : b.v.k = d.kind
        · have bk : (b.v.k != d.kind) = false := by simp [hk2]
          have HQ := Lib.hid (show boundF cells (bounds.take i) b = (match (bounds.take i).getLast? with | none => 0 | some p => followF b.nm b.row p.nm p.row) by rw [HQ1.out, if_neg (fun h => h.2 hk2)])
          clear hk2
          by_cases h0 : i = 0
          · have bg : ((i : Int) == 0) = true := by simp; omega
            have HK := Lib.hid (show boundF cells (bounds.take i) b = 0 by rw [HQ.out, h0]; rfl)
            clear h0
            go_wp2_with fail
            go_ret
            exact ⟨ret_int (by rw [HK.out]), hbw3⟩
          · have bg : ((i : Int) == 0) = false := by simp; omega
            have hp1 : i - 1 < bounds.length := by omega
            obtain ⟨ad2, pi, had2, -, hpi, hpcell⟩ := (HL.out.1.keep (hbw3.mono HL.out.2)).at_ hp1
            injection had2 with had2
            subst had2
            obtain ⟨p, hpe⟩ : ∃ p, bounds[i - 1] = p := ⟨_, rfl⟩
            rw [hpe] at hpi
            have HK := Lib.hid (show boundF cells (bounds.take i) b = followF b.nm b.row p.nm p.row by
              rw [HQ.out, show (bounds.take i).getLast? = some p by rw [List.getLast?_eq_getElem?, List.getElem?_take, List.length_take, if_pos (by omega), show min i bounds.length - 1 = i - 1 by omega, List.getElem?_eq_getElem hp1, hpe]])
            obtain ⟨⟨A5, c5, A6, c6, rfl, hpr1, hpr2⟩, hp2, hp3, hp4, hp5⟩ := hpi
            have pc0 : W3.cell? (ad.add ((i - 1) * 7)) = some (.string p.nm) := hpcell 0 _ rfl
            have pc1 : W3.cell? ⟨(ad.add ((i - 1) * 7)).block, (ad.add ((i - 1) * 7)).off + 1, none⟩ = some (.slice A5 p.row.length c5) := hpcell 1 _ rfl
            have i0 : IntKind.i64.wrap ((i : Int) - 1) = (i : Int) - 1 := IntWalk.i64_in _ (by omega)
            have i1 : ((i : Int) - 1).toNat = i - 1 := by omega
            have i2 : (0 : Int) ≤ (i : Int) - 1 := by omega
            have i3 : (i : Int) - 1 < (bounds.length : Nat) := by omega
            have k1 : ∀ w', Below W3.heap.size W3 w' → Calls Tryz.prog 68 #[.string b.nm, .slice A1 b.row.length c1, .string p.nm, .slice A5 p.row.length c5] w' fun e w'' => e = .returned (.int .i64 (followF b.nm b.row p.nm p.row)) ∧ Below w'.heap.size w' w'' := fun w' hb' =>
              follows_any b.nm p.nm b.row p.row A1 A5 c1 c5 B w' HBX.out.2.1 hp3 (HBX.out.2.2.2.2.1.below ((hbw3.mono HL.out.2).trans (hb'.mono (Nat.le_trans HL.out.2 hbw3.size)))) (hpr1.below (hb'.mono (Nat.le_trans HL.out.2 hbw3.size))) (Nat.le_trans (Nat.le_trans HL.out.2 hbw3.size) hb'.size)
            have K1 := Lib.hid (Later.call k1)
            have q0 := Later.cell pc0
            have q1 := Later.cell pc1
            have q2 := Later.cell (show W3.cell? ⟨w.heap.size, 0, none⟩ = some (.string b.nm) from by assumption)
            have q3 := Later.cell (show W3.cell? ⟨w.heap.size, 1, none⟩ = some (.slice A1 b.row.length c1) from by assumption)
            clear k1 hpcell hpe hpr1 hpr2 hp2 hp3 hp4 hp5 h0 hp1 pc0 pc1
            go_upto_region 15 with (fail)
            refine wp_region_later (by kernel_rfl) (by kernel_rfl) ?_
            repeat (go_big_quiet_step (with_reducible exact K1.out _))
            refine wpQuiet_nil ?_
            intro W9 hw'
            have hb9 := later_h hw'
            clear hw'
            go_wp2_with fail
            go_ret
            exact ⟨ret_int (by rw [HK.out]), hbw3.trans (hb9.mono hbw3.size)⟩
        · have bk : (b.v.k != d.kind) = true := by simp [hk2]
          have HK := Lib.hid (show boundF cells (bounds.take i) b = 8 by rw [HQ1.out, if_pos ⟨hk1, hk2⟩])
          clear hk2
          go_wp2_with fail
          go_ret
          exact ⟨ret_int (by rw [HK.out]), hbw3⟩
      · have HQ := Lib.hid (show boundF cells (bounds.take i) b = (match (bounds.take i).getLast? with | none => 0 | some p => followF b.nm b.row p.nm p.row) by rw [HQ1.out, if_neg (fun h => hk1 h.1)])
        by_cases h0 : i = 0
        · have bg : ((i : Int) == 0) = true := by simp; omega
          have HK := Lib.hid (show boundF cells (bounds.take i) b = 0 by rw [HQ.out, h0]; rfl)
          clear h0
          go_wp2_with fail
          go_ret
          exact ⟨ret_int (by rw [HK.out]), hbw3⟩
        · have bg : ((i : Int) == 0) = false := by simp; omega
          have hp1 : i - 1 < bounds.length := by omega
          obtain ⟨ad2, pi, had2, -, hpi, hpcell⟩ := (HL.out.1.keep (hbw3.mono HL.out.2)).at_ hp1
          injection had2 with had2
          subst had2
          obtain ⟨p, hpe⟩ : ∃ p, bounds[i - 1] = p := ⟨_, rfl⟩
          rw [hpe] at hpi
          have HK := Lib.hid (show boundF cells (bounds.take i) b = followF b.nm b.row p.nm p.row by
            rw [HQ.out, show (bounds.take i).getLast? = some p by rw [List.getLast?_eq_getElem?, List.getElem?_take, List.length_take, if_pos (by omega), show min i bounds.length - 1 = i - 1 by omega, List.getElem?_eq_getElem hp1, hpe]])
          obtain ⟨⟨A5, c5, A6, c6, rfl, hpr1, hpr2⟩, hp2, hp3, hp4, hp5⟩ := hpi
          have pc0 : W3.cell? (ad.add ((i - 1) * 7)) = some (.string p.nm) := hpcell 0 _ rfl
          have pc1 : W3.cell? ⟨(ad.add ((i - 1) * 7)).block, (ad.add ((i - 1) * 7)).off + 1, none⟩ = some (.slice A5 p.row.length c5) := hpcell 1 _ rfl
          have i0 : IntKind.i64.wrap ((i : Int) - 1) = (i : Int) - 1 := IntWalk.i64_in _ (by omega)
          have i1 : ((i : Int) - 1).toNat = i - 1 := by omega
          have i2 : (0 : Int) ≤ (i : Int) - 1 := by omega
          have i3 : (i : Int) - 1 < (bounds.length : Nat) := by omega
          have k1 : ∀ w', Below W3.heap.size W3 w' → Calls Tryz.prog 68 #[.string b.nm, .slice A1 b.row.length c1, .string p.nm, .slice A5 p.row.length c5] w' fun e w'' => e = .returned (.int .i64 (followF b.nm b.row p.nm p.row)) ∧ Below w'.heap.size w' w'' := fun w' hb' =>
            follows_any b.nm p.nm b.row p.row A1 A5 c1 c5 B w' HBX.out.2.1 hp3 (HBX.out.2.2.2.2.1.below ((hbw3.mono HL.out.2).trans (hb'.mono (Nat.le_trans HL.out.2 hbw3.size)))) (hpr1.below (hb'.mono (Nat.le_trans HL.out.2 hbw3.size))) (Nat.le_trans (Nat.le_trans HL.out.2 hbw3.size) hb'.size)
          have K1 := Lib.hid (Later.call k1)
          have q0 := Later.cell pc0
          have q1 := Later.cell pc1
          have q2 := Later.cell (show W3.cell? ⟨w.heap.size, 0, none⟩ = some (.string b.nm) from by assumption)
          have q3 := Later.cell (show W3.cell? ⟨w.heap.size, 1, none⟩ = some (.slice A1 b.row.length c1) from by assumption)
          clear k1 hpcell hpe hpr1 hpr2 hp2 hp3 hp4 hp5 h0 hp1 pc0 pc1
          go_upto_region 15 with (fail)
          refine wp_region_later (by kernel_rfl) (by kernel_rfl) ?_
          repeat (go_big_quiet_step (with_reducible exact K1.out _))
          refine wpQuiet_nil ?_
          intro W9 hw'
          have hb9 := later_h hw'
          clear hw'
          go_wp2_with fail
          go_ret
          exact ⟨ret_int (by rw [HK.out]), hbw3.trans (hb9.mono hbw3.size)⟩
end Go.Proofs.YtpanbeoelbhhgaaGreatDoor
