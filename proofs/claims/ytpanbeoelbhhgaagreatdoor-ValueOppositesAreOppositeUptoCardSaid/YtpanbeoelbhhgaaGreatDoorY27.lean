/- Eval: operations; every right expression. · Eval. · The law: kinds are kept. · The law, awake. · The laid tables of this seat: what the row's list gives, and the witness world that holds them. -/
import Derived.Test.YtpanbeoelbhhgaaGreatDoorY25
import Derived.Test.YtpanbeoelbhhgaaGreatDoorY26
import Derived.Test.YtpanbeoelbhhgaaGreatDoorY17
import Derived.Test.YtpanbeoelbhhgaaGreatDoorY15
import Derived.Test.YtpanbeoelbhhgaaGreatDoorY11
import Derived.Test.YtpanbeoelbhhgaaGreatDoorY16
import Derived.Test.YtpanbeoelbhhgaaGreatDoorY9
import Derived.Test.YtpanbeoelbhhgaaGreatDoorY8
import Derived.Test.YtpanbeoelbhhgaaGreatDoorCards
import Derived.Test.YtpanbeoelbhhgaaGreatDoorTie
import Derived.WalkKit
import Derived.ProofKit
import Derived.OpenShut
import Derived.Deep.DeepHandedRow
import Derived.Deep.DeepLaidRun
import Derived.Lib.LaidTab
import Derived.Stop.LaidErr
import Derived.Lib.SmallJoins
import Derived.PinnedBridge
import Derived.Test.YtpanbeoelbhhgaaGreatDoorY18
import Derived.Shelf.Vars
namespace Go.Proofs.YtpanbeoelbhhgaaGreatDoor
open Go.RowKit
attribute [local go_sem ↓] Go.wp_at_zero Go.wp_at_succ
set_option maxHeartbeats 4000000
set_option maxRecDepth 100000
theorem eval_ops {S : SceneD} (hS : ScOk S) (_hSB : (∀ c ∈ S.cells, c.loops.length ≤ 1048576) ∧ (∀ c ∈ S.loops, c.loops.length ≤ 1048576)) {B0 gs m1 m2 m3 m4 : Nat} {kv1 kv2 kv3 kv4 : List (ByteArray × Value)} {e : Ex} (hf : e.fault = 0) (hI : ∀ a ∈ e.ar, EvSpec S B0 gs m1 m2 m3 m4 kv1 kv2 kv3 kv4 a) (hk : e.k = 4) (h14 : ¬ (12 ≤ e.op ∧ e.op ≤ 14)) (h26 : e.op ≠ 26) (h27 : e.op ≠ 27) : EvSpec S B0 gs m1 m2 m3 m4 kv1 kv2 kv3 kv4 e := by
  intro at_ row Aa R ca cr B1 cs w hw hx hat hrow hB1 hl hca hcr hrl hr hkd
  have hB0 := hw.le
  have HW := Lib.hid hw
  have hgs := hw.si.blk.lt
  obtain ⟨hn0, hs0, hl0, ha0, hx0, hr0, hi0⟩ := hx
  rename_i X1 x1 X2 x2 cs0
  have HXS := Lib.hid (And.intro hx0 (And.intro hs0 hl0))
  have HAR := Lib.hid (And.intro hr0 hi0)
  have HAT := Lib.hid hat
  have HROW := Lib.hid hrow
  have HR := Lib.hid hr
  have HKD := Lib.hid hkd
  obtain ⟨W, hW, hbw, BV, BR, hsz⟩ := box2 w 27 24 #[.int .i64 e.k, .int .i64 e.op, .string e.nm, .int .i64 e.v.k, .int .i64 e.v.n, .string e.v.s, .slice X1 e.v.l.length x1, .slice X2 e.ar.length x2] #[.int .i64 0, .int .i64 0, .string ⟨#[]⟩, .slice none 0 0]
  have HBV := Lib.hid BV
  have HBR := Lib.hid BR
  rw [show exCells e X1 x1 X2 x2 = [.int .i64 e.k, .int .i64 e.op, .string e.nm, .int .i64 e.v.k, .int .i64 e.v.n, .string e.v.s, .slice X1 e.v.l.length x1, .slice X2 e.ar.length x2] from rfl]
  change Calls _ _ #[_, .agg #[.int .i64 e.k, .int .i64 e.op, .string e.nm, .int .i64 e.v.k, .int .i64 e.v.n, .string e.v.s, .slice X1 e.v.l.length x1, .slice X2 e.ar.length x2], _, _] _ _
  obtain ⟨ho1, ho2⟩ := (partOk (fault_part hf)).op4 hk
  have hal := (partOk (fault_part hf)).a4 hk
  obtain ⟨hkz, hkop⟩ := kind_4 hk hkd
  have hF : F2 (e.ar.map fun a => (a.kind S.cells S.loops at_).1) (e.ar.map fun a => a.val S at_ row) := forall2_map (fun a ha => val_ok hS.sceneOk a (fault_arg hf a ha) at_ row _ (Prod.ext rfl (hkz a ha)))
  have hAO := args_ok ⟨ho1, ho2⟩ (by rw [List.length_map]; exact hal.1) hF (show opT e.op (e.ar.map fun a => (a.kind S.cells S.loops at_).1) = ((e.kind S.cells S.loops at_).1, 0) from by rw [← hkop]; exact Prod.ext rfl hkd)
  obtain ⟨vals, hvals⟩ : ∃ vs : List Val, e.ar.map (fun a => a.val S at_ row) = vs := ⟨_, rfl⟩
  rw [hvals] at hAO
  have HVAL := Lib.hid (show e.val S at_ row = applyV e.op vals by rw [val_eq, if_neg (by omega), if_neg (by omega), if_neg (by omega), if_neg (by omega), if_neg h14, if_neg h26, if_neg h27, valsL_map, hvals])
  have hvl : vals.length = e.ar.length := by rw [← hvals, List.length_map]
  have har1 : 1 ≤ e.ar.length := by rw [← hvl]; exact hAO.l1
  have HVV := Lib.hid (show ∀ k (hk : k < e.ar.length) (hk' : k < vals.length), vals[k] = (e.ar[k]).val S at_ row from fun k hk hk' => by simp [← hvals])
  obtain ⟨b, o, hA2, hb9, hca9⟩ := ExAt.args hr0 hi0 (by omega)
  subst hA2
  have hbW := Nat.lt_of_lt_of_le hb9 hB0
  have HCA := Lib.hid hca9
  have HE := Lib.hid (show ∀ (i : Nat) (hi : i < e.ar.length) P1 p1 Q1 q1, ExAt w B0 e.ar[i] (exCells e.ar[i] P1 p1 Q1 q1) → ∀ w', Below W.heap.size W w' → Calls Tryz.prog 20 #[.pointer (some ⟨gs, 0, none⟩), .agg (exCells e.ar[i] P1 p1 Q1 q1).toArray, .slice Aa at_.length ca, .slice R row.length cr] w' fun en w'' => (∃ x, en = .returned x ∧ VRet w'' B0 ((e.ar[i]).val S at_ row) x) ∧ Below w'.heap.size w' w'' from
    fun i hi P1 p1 Q1 q1 hxi w' hb => hI _ (List.getElem_mem hi) at_ row Aa R ca cr B1 _ w' (HW.out.keep (hbw.trans (hb.mono hbw.size))) (hxi.keep ((hbw.trans (hb.mono hbw.size)).mono hB0)) (hat.below ((hbw.trans (hb.mono hbw.size)).mono hB1)) (hrow.below ((hbw.trans (hb.mono hbw.size)).mono hB1)) (Nat.le_trans hB1 (hbw.trans (hb.mono hbw.size)).size) hl hca hcr hrl hr (hkz _ (List.getElem_mem hi)))
  obtain ⟨o9, ho9⟩ : ∃ q, e.op = q := ⟨_, rfl⟩
  have ec0 : W.cell? ⟨w.heap.size, 0, none⟩ = some (.int .i64 4) := by have h := HBV.out.cell 0; rwa [show (#[.int .i64 e.k, .int .i64 e.op, .string e.nm, .int .i64 e.v.k, .int .i64 e.v.n, .string e.v.s, .slice X1 e.v.l.length x1, .slice (some ⟨b, o, none⟩) e.ar.length x2] : Array Value)[0]? = some (.int .i64 4) from by rw [hk]; rfl] at h
  have ec1 : W.cell? ⟨w.heap.size, 1, none⟩ = some (.int .i64 e.op) := HBV.out.cell 1
  have ec7 : W.cell? ⟨w.heap.size, 7, none⟩ = some (.slice (some ⟨b, o, none⟩) e.ar.length x2) := HBV.out.cell 7
  rw [ho9] at ec1 HVAL hAO h14 h26 h27 ho1 ho2
  have HAP := Lib.hid (show ∀ A c w', ArgsAt B0 w' w'.heap.size A vals → Below W.heap.size W w' → Calls Tryz.prog 53 #[.int .i64 o9, .slice A vals.length c] w' fun en w'' => (∃ x, en = .returned x ∧ VRet w'' B0 (applyV o9 vals) x) ∧ Below w'.heap.size w' w'' from
    fun A c w' hA hb => apply_any o9 vals A c B0 w'.heap.size w' hA (Nat.le_refl _) (Nat.le_trans hB0 (hbw.trans (hb.mono hbw.size)).size) (HW.out.mx.below (hbw.trans (hb.mono hbw.size))) hAO ho1 ho2 h14 h26 h27)
  have q12 : (o9 == 12) = false := by simp; omega
  have q13 : (o9 == 13) = false := by simp; omega
  have q14 : (o9 == 14) = false := by simp; omega
  have q26 : (o9 == 26) = false := by simp; omega
  have q27 : (o9 == 27) = false := by simp; omega
  have hm : e.ar.length ≤ 1099511627776 := by
    have h := hal.2
    have : (arOf e.op).2 ≤ 1099511627776 := by unfold arOf; repeat' split
                                               all_goals decide
    omega
  clear hk hx0 hr0 hi0 hat hrow hr hkd hkz hkop hF hAO hvals hca9 ho9 h14 h26 h27 ho1 ho2 hal
  obtain ⟨n, hn1⟩ : ∃ n, row.length = n := ⟨_, rfl⟩
  rw [hl, hn1]
  rw [hn1] at hl hcr hrl
  rw [hl] at hca
  rw [hl, hn1] at HE
  obtain ⟨m9, hm9⟩ : ∃ m, e.ar.length = m := ⟨_, rfl⟩
  rw [hm9] at ec7 hvl har1 hm
  have HM9 := Lib.hid hm9
  obtain ⟨v0, hu0, hz0v, hz1v, hz2v⟩ := info_parts infoVal
  have hB0W : B0 ≤ W.heap.size := Nat.le_trans hB0 hbw.size
  clear hm9
  go_enter Tryz.func20, Tryz.ntmps20
  go_upto_region 1 with (fail)
  rw [← hW]
  clear hW hsz
  go_wp2_with fail
  go_loopw [126, 11, 13] (fun i v _ wr => ∃ (k : Nat) (Av : Option Addr) (cv : Nat), k ≤ m9 ∧ i = .int .i64 k ∧ v = .slice Av k cv ∧ Hid (OV wr B0 W.heap.size (.slice Av k cv) (vals.take k)) ∧ Below W.heap.size W wr) (fun i _ _ _ => m9 - (intOf i).toNat)
  case atStart => exact ⟨0, none, 0, Nat.zero_le _, rfl, rfl, Lib.hid OV.nil, Below.refl _ _⟩
  case round =>
    obtain ⟨k, Av, cv, hk, rfl, rfl, HOV, hbr⟩ := hrel
    by_cases hlt : k < m9
    · have hlt2 : k < e.ar.length := by rw [HM9.out]; exact hlt
      obtain ⟨P1, p1, Q1, q1, hcc, hxi⟩ := HCA.out k hlt2
      have HEK := HE.out k hlt2 P1 p1 Q1 q1 hxi
      obtain ⟨a, ha⟩ : ∃ a, e.ar[k] = a := ⟨_, rfl⟩
      have hvk9 := HVV.out k hlt2 (by omega)
      rw [ha] at hcc HEK hvk9
      have HVK := Lib.hid (show vals.take (k + 1) = vals.take k ++ [a.val S at_ row] by rw [← List.take_append_getElem (by omega), hvk9])
      have hvk : (vals.take k).length = k := by rw [List.length_take]; omega
      have hbwr := hbw.trans (hbr.mono hbw.size)
      have hB0r : B0 ≤ wr.heap.size := Nat.le_trans hB0W hbr.size
      have hcr9 := (hcc.below hbw hbW).below hbr (Nat.lt_of_lt_of_le hbW hbw.size)
      have f0 := hcr9.f0
      have f1 := hcr9.f1
      have f2 := hcr9.f2
      have f3 := hcr9.f3
      have f4 := hcr9.f4
      have f5 := hcr9.f5
      have f6 := hcr9.f6
      have f7 := hcr9.f7
      have HEK := Lib.hid (show ∀ w', Below W.heap.size W w' → Calls Tryz.prog 20 #[.pointer (some ⟨gs, 0, none⟩), .agg #[.int .i64 a.k, .int .i64 a.op, .string a.nm, .int .i64 a.v.k, .int .i64 a.v.n, .string a.v.s, .slice P1 a.v.l.length p1, .slice Q1 a.ar.length q1], .slice Aa n ca, .slice R n cr] w' fun en w'' => (∃ x, en = .returned x ∧ VRet w'' B0 (a.val S at_ row) x) ∧ Below w'.heap.size w' w'' from HEK)
      have hlI : (k : Int) < (m9 : Nat) := by omega
      have HLT := Lib.hid hlt
      clear hcc hxi ha hvk9 hcr9 hlt2
      go_wp2_with (first
        | (go_at_call 20; (with_reducible refine (HEK.out _ (hbr.alloc hbr.size _)).mono ?_); rintro e7 w7 ⟨⟨x, rfl, cs7, rfl, ⟨A7, c7, rfl, hr7⟩, hs7, hl7⟩, hb7⟩; have hq7 : Below wr.heap.size wr w7 := ((Below.refl _ wr).alloc (Nat.le_refl _) _).trans (hb7.mono (by simp)); obtain ⟨xs, hox, hsn⟩ := (HOV.out.below hq7 hB0r).snoc; rw [hvk] at hox hsn)
        | (at_builtin; refine wpList_append_lies _ rfl _ _ 113 rfl W.heap.size 24 v0 (.agg #[.int .i64 0, .int .i64 0, .string ByteArray.empty, .slice none 0 0]) 4 56 Tryz.underlying113 hu0 hz0v hz1v hz2v rfl (by decide) _ _ _ rfl (hox.alloc _) ⟨w7.heap.size, 0, none⟩ 1 1 [.int .i64 (a.val S at_ row).k, .int .i64 (a.val S at_ row).n, .string (a.val S at_ row).s, .slice A7 (a.val S at_ row).l.length c7] rfl rfl ?d1 ?d2 (by decide) ?d3 ?d4 ?d5 _ rfl ?_))
      case d1 => exact World.news_of_block (Blk.new w7 24 _)
      case d2 => intro u hu; simp only [List.mem_cons, List.not_mem_nil, or_false] at hu; rcases hu with rfl | rfl | rfl | rfl <;> rfl
      case d3 => unfold maxLen; omega
      case d4 => omega
      case d5 => have := hq7.size; have := hbr.size; simp; omega
      intro g2 cap2 w4 ho4 hgr4 _ _
      have hb04 : Below B0 w7 w4 := ((Below.refl B0 w7).alloc (Nat.le_trans hB0r hq7.size) _).grown hgr4 (by have := hq7.size; simp; omega) (fun g hg => Nat.le_trans hB0W (hox.lt g hg).1)
      have hbW4 : Below W.heap.size W w4 := (hbr.trans ((hq7.alloc hq7.size _).mono hbr.size)).grown hgr4 (by have := hq7.size; have := hbr.size; simp; omega) (fun g hg => (hox.lt g hg).1)
      have HO9 := Lib.hid (show OV w4 B0 W.heap.size (.slice (some ⟨g2, 0, none⟩) (k + 1) cap2) (vals.take (k + 1)) from by rw [HVK.out]; exact hsn w4 _ (a.val S at_ row) A7 c7 ho4 hb04 (hr7.below hb04) hs7 hl7)
      go_wp2_with fail
      go_roundw
      case rel => exact ⟨k + 1, some ⟨g2, 0, none⟩, cap2, HLT.out, by go_num, rfl, HO9, hbW4⟩
      case measure =>
        have := HLT.out
        simp [intOf]
        omega
    · have hE : m9 = k := by omega
      have HOV := Lib.hid (show OV wr B0 W.heap.size (.slice Av k cv) vals from by have h := HOV.out; rwa [List.take_of_length_le (by omega)] at h)
      have HA := HAP.out Av cv wr HOV.out.args hbr
      rw [hvl, hE] at HA
      have HA := Lib.hid HA
      subst hE
      have ec1 := Below.cell_of hbr ec1
      have hbwr := hbw.trans (hbr.mono hbw.size)
      clear hlt hk
      go_wp2_with (go_at_call 53; (with_reducible refine HA.out.mono ?_); rintro e7 w7 ⟨⟨x, rfl, cs7, rfl, ⟨A7, c7, rfl, hr7⟩, hs7, hl7⟩, hb7⟩; have hbw7 := hbwr.trans (hb7.mono hbwr.size); have B0 := HBR.out.below (hbr.trans (hb7.mono hbr.size)) HBR.out.lt; obtain ⟨r0, s0, r1, s1, r2, s2, r3, s3⟩ := Blk.z4 B0)
      exact end4 Tryz.results20 rfl B0 hbw7 (Nat.le_succ _) (fun W9 hW9 => ⟨⟨_, rfl, by rw [HVAL.out]; exact ⟨_, rfl, (VAt.back ⟨⟨A7, c7, rfl, hr7⟩, hs7, hl7⟩ hbw7 hB0).keep hW9 hB0⟩⟩, hW9⟩)
theorem eval_any {S : SceneD} (hS : ScOk S) (hSB : (∀ c ∈ S.cells, c.loops.length ≤ 1048576) ∧ (∀ c ∈ S.loops, c.loops.length ≤ 1048576)) {B0 gs m1 m2 m3 m4 : Nat} {kv1 kv2 kv3 kv4 : List (ByteArray × Value)} (e : Ex) : e.fault = 0 → EvSpec S B0 gs m1 m2 m3 m4 kv1 kv2 kv3 kv4 e := by
  induction e using Ex.ind with
  | h e ih =>
    intro hf
    have hk := (partOk (fault_part hf)).k
    have hI : ∀ a ∈ e.ar, EvSpec S B0 gs m1 m2 m3 m4 kv1 kv2 kv3 kv4 a := fun a ha => ih a ha (fault_arg hf a ha)
    by_cases k1 : e.k = 1
    · exact eval_1 hS hSB hf k1
    by_cases k2 : e.k = 2
    · exact eval_2 hS hSB hf k2
    by_cases k3 : e.k = 3
    · exact eval_3 hS hSB hf k3
    by_cases k5 : e.k = 5
    · exact eval_5 hS hSB hf hI k5
    have k4 : e.k = 4 := by omega
    by_cases c1 : 12 ≤ e.op ∧ e.op ≤ 14
    · exact eval_about hS hSB hf k4 c1
    by_cases c2 : e.op = 26
    · exact eval_if hS hSB hf hI k4 c2
    by_cases c3 : e.op = 27
    · exact eval_else hS hSB hf hI k4 c3
    exact eval_ops hS hSB hf hI k4 c1 c2 c3
end Go.Proofs.YtpanbeoelbhhgaaGreatDoor
namespace Go.Proofs.YtpanbeoelbhhgaaGreatDoor
open Go.RowKit
attribute [local go_sem ↓] Go.wp_at_zero Go.wp_at_succ
set_option maxHeartbeats 4000000
set_option maxRecDepth 100000
theorem end4t {fn : Func} {s r : Tmp} {tmps : Array Value} {w w4 : World} {g b : Nat} {c0 c1 c2 c3 a0 a1 a2 a3 x : Value} {Q : Ending → World → Prop} (hr : fn.results = #[.cell s 24, .tmp r]) (hs : tmps[s]?.getD undef = .pointer (some ⟨g, 0, none⟩)) (hx : tmps[r]?.getD undef = x) (B : Blk w4 g 24 #[c0, c1, c2, c3]) (hb : Below b w w4) (hg : b ≤ g) (h : ∀ W, W = ((((w4.setCell ⟨g, 0, none⟩ a0).setCell ⟨g, 1, none⟩ a1).setCell ⟨g, 2, none⟩ a2).setCell ⟨g, 3, none⟩ a3) → Below b w W → Q (.returned (.tuple #[.agg #[a0, a1, a2, a3], x])) W) :
    bodyPost Tryz.prog fn Q Exit.ret { tmps := tmps, defers := [] } ((((w4.setCell ⟨g, 0, none⟩ a0).setCell ⟨g, 1, none⟩ a1).setCell ⟨g, 2, none⟩ a2).setCell ⟨g, 3, none⟩ a3) := by
  obtain ⟨W, hW, B9, hb9⟩ := set4_ex B hb hg a0 a1 a2 a3
  have hWW := hW
  rw [← hW]
  have q0 : W.cell? ⟨g, 0, none⟩ = some a0 := B9.cell 0
  have q1 : W.cell? ⟨g, 1, none⟩ = some a1 := B9.cell 1
  have q2 : W.cell? ⟨g, 2, none⟩ = some a2 := B9.cell 2
  have q3 : W.cell? ⟨g, 3, none⟩ = some a3 := B9.cell 3
  exact bodyPost_ret (v := .tuple #[.agg #[a0, a1, a2, a3], x]) (by simp [results, hr, go_sem, hs, hx, q0, q1, q2, q3]) rfl (h W hWW hb9)
theorem evalV_bad {S : SceneD} {e : Ex} {at_ : List ByteArray} {row : List Int} {b : Nat} {w : World} (h : evFault S e at_ row ≠ 0) : TRet b w (evalV S e at_ row) (.agg #[.int .i64 0, .int .i64 0, .string ⟨#[]⟩, .slice none 0 0]) := by
  unfold evalV
  rw [if_pos h]
  exact ⟨none, 0, rfl, World.ownsRow_nil _ _ _ _, Nat.zero_le _, Nat.zero_le _⟩
theorem rowF_okE {row : List Int} {n : Nat} (h : rowF row n = 0) : row.length = n ∧ codesOk row := by
  unfold rowF at h
  by_cases h1 : row.length = n
  · rw [if_neg (Decidable.not_not.2 h1)] at h
    by_cases h2 : row.any badCode = true
    · rw [if_pos h2] at h; exact absurd h (by decide)
    · refine ⟨h1, fun m hm => ?_⟩
      have h3 := List.any_eq_false.1 (Bool.not_eq_true _ ▸ h2) m hm
      exact outB_no (Bool.not_eq_true _ ▸ h3)
  · rw [if_pos h1] at h; exact absurd h (by decide)
theorem evalTop_any (S : SceneD) (e : Ex) (cs : List Value) (at_ : List ByteArray) (A : Option Addr) (c : Nat) (AC AN AB AR : Option Addr) (cc cn cb cr B : Nat) (row : List Int) (R : Option Addr) (c9 : Nat) (w : World) (hC : CellsAt w B AC S.cells) (hN : NestsAt w B AN S.loops) (hLb : BoundsAt w B AB S.bounds) (hLr : RowssAt w B AR S.rows) (hx : ExAt w B e cs) (ha : at_.length ≤ maxLen) (hat : StrsAt w B A at_) (hc : at_.length ≤ c) (hs : ∀ s ∈ at_, s.size ≤ maxLen) (hp : e.parts ≤ 1000000) (hCL : ∀ d ∈ S.cells, d.loops.length ≤ 1048576) (hNL : ∀ d ∈ S.loops, d.loops.length ≤ 1048576) (hrow : Reads w B 1 R row.length (numV .i64 row)) (hrc : row.length ≤ c9) (hrl : row.length ≤ 1048577) (hB : B ≤ w.heap.size) (htab : Tab10 w) (hmx : Mx w) :
    Calls Tryz.prog 8 #[.agg cs.toArray, .agg #[.slice AC S.cells.length cc, .slice AN S.loops.length cn, .slice AB S.bounds.length cb, .slice AR S.rows.length cr], .slice A at_.length c, .slice R row.length c9] w fun en w' => (∃ x, en = .returned (.tuple #[x, .int .i64 (evFault S e at_ row)]) ∧ TRet w.heap.size w' (evalV S e at_ row) x) ∧ Below w.heap.size w w' := by
  have HX := Lib.hid hx
  have HAT := Lib.hid (And.intro ha (And.intro hat (And.intro hc hs)))
  have HRW := Lib.hid (And.intro hrow (And.intro hrc hrl))
  have HMX := Lib.hid (And.intro htab hmx)
  have HLL := Lib.hid (And.intro hCL hNL)
  obtain ⟨f0, hf0⟩ : ∃ f, sceneF S.cells S.loops S.bounds S.rows = f := ⟨_, rfl⟩
  obtain ⟨f1, hf1⟩ : ∃ f, checkE e = f := ⟨_, rfl⟩
  obtain ⟨f2, hf2⟩ : ∃ f, nestedF S.loops at_ = f := ⟨_, rfl⟩
  obtain ⟨kk, f3, hf3⟩ : ∃ k f, e.kind S.cells S.loops at_ = (k, f) := ⟨_, _, rfl⟩
  obtain ⟨f4, hf4⟩ : ∃ f, rowF row at_.length = f := ⟨_, rfl⟩
  have HF := Lib.hid (show evFault S e at_ row = if f0 ≠ 0 then f0 else if f1 ≠ 0 then f1 else if f2 = false then 9 else if f3 ≠ 0 then f3 else f4 by unfold evFault; rw [hf0, hf1, hf2, hf3, hf4])
  have HF0 := Lib.hid hf0
  have HF1 := Lib.hid hf1
  have HF3 := Lib.hid hf3
  have HF4 := Lib.hid hf4
  have H1 := Lib.hid (show ∀ w', Below w.heap.size w w' → Calls Tryz.prog 14 #[.agg #[.slice AC S.cells.length cc, .slice AN S.loops.length cn, .slice AB S.bounds.length cb, .slice AR S.rows.length cr]] w' fun en w'' => (∃ p, en = .returned (.tuple #[.pointer p, .int .i64 f0]) ∧ (f0 = 0 → ∃ gs m1 m2 m3 m4 kv1 kv2 kv3 kv4, p = some ⟨gs, 0, none⟩ ∧ SiAt w'' B gs m1 m2 m3 m4 kv1 kv2 kv3 kv4 S.cells S.loops S.bounds S.rows)) ∧ Below w'.heap.size w' w'' from fun w' hb => by
    have h := sightOf_any S.cells S.loops S.bounds S.rows AC AN AB AR cc cn cb cr B w' (hC.keep (hb.mono hB)) (hN.keep (hb.mono hB)) (hLb.keep (hb.mono hB)) (hLr.keep (hb.mono hB)) hCL hNL (Nat.le_trans hB hb.size) (htab.below hb)
    refine h.mono fun en w'' hh => ⟨?_, hh.hb⟩
    obtain ⟨p, hp1, hp2⟩ := hh.ex
    rw [hf0] at hp1 hp2
    exact ⟨p, hp1, fun h0 => by
      obtain ⟨gs, m1, m2, m3, m4, kv1, kv2, kv3, kv4, e1, e2, -⟩ := hp2 h0
      exact ⟨gs, m1, m2, m3, m4, kv1, kv2, kv3, kv4, e1, e2⟩⟩)
  have H5 := Lib.hid (fun w' (hb : Below w.heap.size w w') => rowFault_any row at_.length R c9 B w' ha (by unfold maxLen; omega) (hrow.below (hb.mono hB)))
  rw [hf4] at H5
  obtain ⟨hn0, hs0, hl0, ha0, hx0, hr0, hi0⟩ := hx
  rename_i X1 x1 X2 x2 cs0
  have H2 := Lib.hid (show ∀ w', Below w.heap.size w w' → Calls Tryz.prog 15 #[.agg #[.int .i64 e.k, .int .i64 e.op, .string e.nm, .int .i64 e.v.k, .int .i64 e.v.n, .string e.v.s, .slice X1 e.v.l.length x1, .slice X2 e.ar.length x2]] w' fun en w'' => en = .returned (.int .i64 f1) ∧ Below w'.heap.size w' w'' from fun w' hb => by
    have h := CheckExpr_any e B _ w' (HX.out.keep (hb.mono hB)) (Nat.le_trans hB hb.size) (by omega)
    rw [HF1.out] at h
    exact h)
  obtain ⟨W1, hW1, hbw1, BE1, BS1, hsz1⟩ := box2 w 27 33 #[.int .i64 e.k, .int .i64 e.op, .string e.nm, .int .i64 e.v.k, .int .i64 e.v.n, .string e.v.s, .slice X1 e.v.l.length x1, .slice X2 e.ar.length x2] #[.slice AC S.cells.length cc, .slice AN S.loops.length cn, .slice AB S.bounds.length cb, .slice AR S.rows.length cr]
  obtain ⟨W, hW⟩ : ∃ W, W = W1.alloc (.cells #[.int .i64 0, .int .i64 0, .string ⟨#[]⟩, .slice none 0 0] 24 (0, 0)) := ⟨_, rfl⟩
  have hb1W : Below W1.heap.size W1 W := hW ▸ below_a W1 _
  have BE := BE1.below hb1W BE1.lt
  have BS := BS1.below hb1W BS1.lt
  have BR : Blk W (w.heap.size + 2) 24 #[.int .i64 0, .int .i64 0, .string ⟨#[]⟩, .slice none 0 0] := by rw [← hsz1]; exact hW ▸ Blk.new W1 _ _
  have hbw := hbw1.trans (hb1W.mono hbw1.size)
  rw [hW1] at hW
  have HBE := Lib.hid BE
  have HBR := Lib.hid BR
  have es0 : W.cell? ⟨w.heap.size + 1, 0, none⟩ = some (.slice AC S.cells.length cc) := BS.cell 0
  have es1 : W.cell? ⟨w.heap.size + 1, 1, none⟩ = some (.slice AN S.loops.length cn) := BS.cell 1
  have es2 : W.cell? ⟨w.heap.size + 1, 2, none⟩ = some (.slice AB S.bounds.length cb) := BS.cell 2
  have es3 : W.cell? ⟨w.heap.size + 1, 3, none⟩ = some (.slice AR S.rows.length cr) := BS.cell 3
  rw [show exCells e X1 x1 X2 x2 = [.int .i64 e.k, .int .i64 e.op, .string e.nm, .int .i64 e.v.k, .int .i64 e.v.n, .string e.v.s, .slice X1 e.v.l.length x1, .slice X2 e.ar.length x2] from rfl]
  change Calls _ _ #[.agg #[.int .i64 e.k, .int .i64 e.op, .string e.nm, .int .i64 e.v.k, .int .i64 e.v.n, .string e.v.s, .slice X1 e.v.l.length x1, .slice X2 e.ar.length x2], _, _, _] _ _
  obtain ⟨na, hna⟩ : ∃ n, at_.length = n := ⟨_, rfl⟩
  obtain ⟨nr, hnr⟩ : ∃ n, row.length = n := ⟨_, rfl⟩
  have HNA := Lib.hid hna
  have HNR := Lib.hid hnr
  rw [hna, hnr] at H5
  rw [hna, hnr]
  clear hC hN hLb hLr hx0 hr0 hi0 hat hc hs ha hCL hNL hrow hrc hrl htab hmx hf0 hf1 hf3 hf4 BE1 BS1 BE BS hW1 hb1W hbw1 hsz1 hna hnr W1
  go_enter Tryz.func8, Tryz.ntmps8
  go_upto_region 1 with (fail)
  rw [← hW]
  clear hW
  go_upto_region 2 with (go_at_call 14; (with_reducible refine (H1.out _ hbw).mono ?_); rintro e1 w1 ⟨⟨p, rfl, hsi⟩, hb1⟩)
  have hbw1 := hbw.trans (hb1.mono hbw.size)
  clear es0 es1 es2 es3
  by_cases h0 : f0 = 0
  rotate_left
  · have h0I : (f0 != 0) = true := by simpa using h0
    have hne := h0
    have HSS := Lib.hid hsi
    clear hsi
    have BRX := HBR.out.below hb1 HBR.out.lt
    obtain ⟨r0, s0, r1, s1, r2, s2, r3, s3⟩ := Blk.z4 BRX
    have HFF := Lib.hid (show evFault S e at_ row = f0 by rw [HF.out, if_pos hne])
    go_wp2_with fail
    exact end4t (x := .int .i64 f0) Tryz.results8 rfl rfl BRX hbw1 (Nat.le_add_right _ 2) (fun W9 _ hW9 => ⟨⟨_, by rw [HFF.out], evalV_bad (by rw [HFF.out]; first | exact hne | decide)⟩, hW9⟩)
  subst h0
  obtain ⟨gs, m1, m2, m3, m4, kv1, kv2, kv3, kv4, rfl, hsj⟩ := hsi rfl
  have HSI := Lib.hid hsj
  have hgl := hsj.blk.lt
  clear hsi hsj
  have ec0 : w1.cell? ⟨w.heap.size, 0, none⟩ = some (.int .i64 e.k) := (HBE.out.below hb1 HBE.out.lt).cell 0
  have ec1 : w1.cell? ⟨w.heap.size, 1, none⟩ = some (.int .i64 e.op) := (HBE.out.below hb1 HBE.out.lt).cell 1
  have ec2 : w1.cell? ⟨w.heap.size, 2, none⟩ = some (.string e.nm) := (HBE.out.below hb1 HBE.out.lt).cell 2
  have ec3 : w1.cell? ⟨w.heap.size, 3, none⟩ = some (.int .i64 e.v.k) := (HBE.out.below hb1 HBE.out.lt).cell 3
  have ec4 : w1.cell? ⟨w.heap.size, 4, none⟩ = some (.int .i64 e.v.n) := (HBE.out.below hb1 HBE.out.lt).cell 4
  have ec5 : w1.cell? ⟨w.heap.size, 5, none⟩ = some (.string e.v.s) := (HBE.out.below hb1 HBE.out.lt).cell 5
  have ec6 : w1.cell? ⟨w.heap.size, 6, none⟩ = some (.slice X1 e.v.l.length x1) := (HBE.out.below hb1 HBE.out.lt).cell 6
  have ec7 : w1.cell? ⟨w.heap.size, 7, none⟩ = some (.slice X2 e.ar.length x2) := (HBE.out.below hb1 HBE.out.lt).cell 7
  go_upto_region 5 with (go_at_call 15; (with_reducible refine (H2.out _ hbw1).mono ?_); rintro e2 w2 ⟨rfl, hb2⟩)
  have hbw2 := hbw1.trans (hb2.mono hbw1.size)
  have hbW2 := hb1.trans (hb2.mono hb1.size)
  clear ec0 ec1 ec2 ec3 ec4 ec5 ec6 ec7
  by_cases h1 : f1 = 0
  rotate_left
  · have h1I : (f1 != 0) = true := by simpa using h1
    have hne := h1
    have BRX := HBR.out.below hbW2 HBR.out.lt
    obtain ⟨r0, s0, r1, s1, r2, s2, r3, s3⟩ := Blk.z4 BRX
    have HFF := Lib.hid (show evFault S e at_ row = f1 by rw [HF.out, if_neg (fun h => h rfl), if_pos hne])
    go_wp2_with fail
    exact end4t (x := .int .i64 f1) Tryz.results8 rfl rfl BRX hbw2 (Nat.le_add_right _ 2) (fun W9 _ hW9 => ⟨⟨_, by rw [HFF.out], evalV_bad (by rw [HFF.out]; first | exact hne | decide)⟩, hW9⟩)
  subst h1
  have HSI2 := Lib.hid (HSI.out.keep hb2)
  have g0 : w2.cell? ⟨gs, 0, none⟩ = some (.map (some m1)) := HSI2.out.blk.cell 0
  have g1 : w2.cell? ⟨gs, 1, none⟩ = some (.map (some m2)) := HSI2.out.blk.cell 1
  have H3 := Lib.hid (show Calls Tryz.prog 16 #[.agg #[.map (some m1), .map (some m2)], .slice A na c] w2 fun en w'' => en = .returned (.bool f2) ∧ Below w2.heap.size w2 w'' from by
    have h := nested_any at_ A c m1 m2 B kv2 S.loops w2 HAT.out.1 HAT.out.2.2.2 (HAT.out.2.1.below (hbw2.mono hB)) HAT.out.2.2.1 (Nat.le_trans hB hbw2.size) HSI2.out.ty.n HSI2.out.ty.nn
    rw [HNA.out, hf2] at h
    exact h)
  cases f2
  · have HFF := Lib.hid (show evFault S e at_ row = 9 by rw [HF.out, if_neg (fun h => h rfl), if_neg (fun h => h rfl), if_pos rfl])
    go_wp2_with (go_at_call 16; (with_reducible refine H3.out.mono ?_); rintro e3 w3 ⟨rfl, hb3⟩; have hbw3 := hbw2.trans (hb3.mono hbw2.size); have BRX := HBR.out.below (hbW2.trans (hb3.mono hbW2.size)) HBR.out.lt; obtain ⟨r0, s0, r1, s1, r2, s2, r3, s3⟩ := Blk.z4 BRX)
    exact end4t (x := .int .i64 9) Tryz.results8 rfl rfl BRX hbw3 (Nat.le_add_right _ 2) (fun W9 _ hW9 => ⟨⟨_, by rw [HFF.out], evalV_bad (by rw [HFF.out]; decide)⟩, hW9⟩)
  go_upto_region 9 with (go_at_call 16; (with_reducible refine H3.out.mono ?_); rintro e3 w3 ⟨rfl, hb3⟩)
  have hbw3 := hbw2.trans (hb3.mono hbw2.size)
  have hbW3 := hbW2.trans (hb3.mono hbW2.size)
  have HSI3 := Lib.hid (HSI2.out.keep hb3)
  have g0 : w3.cell? ⟨gs, 0, none⟩ = some (.map (some m1)) := HSI3.out.blk.cell 0
  have g1 : w3.cell? ⟨gs, 1, none⟩ = some (.map (some m2)) := HSI3.out.blk.cell 1
  have ec0 : w3.cell? ⟨w.heap.size, 0, none⟩ = some (.int .i64 e.k) := (HBE.out.below hbW3 HBE.out.lt).cell 0
  have ec1 : w3.cell? ⟨w.heap.size, 1, none⟩ = some (.int .i64 e.op) := (HBE.out.below hbW3 HBE.out.lt).cell 1
  have ec2 : w3.cell? ⟨w.heap.size, 2, none⟩ = some (.string e.nm) := (HBE.out.below hbW3 HBE.out.lt).cell 2
  have ec3 : w3.cell? ⟨w.heap.size, 3, none⟩ = some (.int .i64 e.v.k) := (HBE.out.below hbW3 HBE.out.lt).cell 3
  have ec4 : w3.cell? ⟨w.heap.size, 4, none⟩ = some (.int .i64 e.v.n) := (HBE.out.below hbW3 HBE.out.lt).cell 4
  have ec5 : w3.cell? ⟨w.heap.size, 5, none⟩ = some (.string e.v.s) := (HBE.out.below hbW3 HBE.out.lt).cell 5
  have ec6 : w3.cell? ⟨w.heap.size, 6, none⟩ = some (.slice X1 e.v.l.length x1) := (HBE.out.below hbW3 HBE.out.lt).cell 6
  have ec7 : w3.cell? ⟨w.heap.size, 7, none⟩ = some (.slice X2 e.ar.length x2) := (HBE.out.below hbW3 HBE.out.lt).cell 7
  have hef : e.fault = 0 := checkE_fault HF1.out
  have HEF := Lib.hid hef
  have H4 := Lib.hid (show ∀ w', Below w3.heap.size w3 w' → Calls Tryz.prog 17 #[.agg #[.map (some m1), .map (some m2)], .agg #[.int .i64 e.k, .int .i64 e.op, .string e.nm, .int .i64 e.v.k, .int .i64 e.v.n, .string e.v.s, .slice X1 e.v.l.length x1, .slice X2 e.ar.length x2], .slice A na c] w' fun en w'' => en = .returned (.tuple #[.int .i64 kk, .int .i64 f3]) ∧ Below w3.heap.size w3 w'' from fun w' hb => by
    have hbb := hbw3.trans (hb.mono hbw3.size)
    have h := typed_any S.cells S.loops kv1 kv2 m1 m2 HLL.out.2 e HEF.out B at_ A c _ w' (HX.out.keep (hbb.mono hB)) (HSI3.out.keep hb).ty HAT.out.1 (HAT.out.2.1.below (hbb.mono hB)) HAT.out.2.2.1 (Nat.le_trans hB hbb.size)
    rw [HNA.out, HF3.out] at h
    exact h.mono fun _ _ ⟨he, hk⟩ => ⟨he, hb.trans (hk.mono hb.size)⟩)
  have HSB := Lib.hid (show ∀ w', Below w3.heap.size w3 w' → w'.cell? ⟨gs, 0, none⟩ = some (.map (some m1)) ∧ w'.cell? ⟨gs, 1, none⟩ = some (.map (some m2)) ∧ w'.cell? ⟨w.heap.size, 0, none⟩ = some (.int .i64 e.k) ∧ w'.cell? ⟨w.heap.size, 1, none⟩ = some (.int .i64 e.op) ∧ w'.cell? ⟨w.heap.size, 2, none⟩ = some (.string e.nm) ∧ w'.cell? ⟨w.heap.size, 3, none⟩ = some (.int .i64 e.v.k) ∧ w'.cell? ⟨w.heap.size, 4, none⟩ = some (.int .i64 e.v.n) ∧ w'.cell? ⟨w.heap.size, 5, none⟩ = some (.string e.v.s) ∧ w'.cell? ⟨w.heap.size, 6, none⟩ = some (.slice X1 e.v.l.length x1) ∧ w'.cell? ⟨w.heap.size, 7, none⟩ = some (.slice X2 e.ar.length x2) ∧ Below w3.heap.size w3 w' from fun w' hb => ⟨Below.cell_of hb g0, Below.cell_of hb g1, Below.cell_of hb ec0, Below.cell_of hb ec1, Below.cell_of hb ec2, Below.cell_of hb ec3, Below.cell_of hb ec4, Below.cell_of hb ec5, Below.cell_of hb ec6, Below.cell_of hb ec7, hb⟩)
  have hq0 := Below.refl w3.heap.size w3
  clear g0 g1 ec0 ec1 ec2 ec3 ec4 ec5 ec6 ec7 hef
  go_region_held3 (fun w' => w'.cell? ⟨gs, 0, none⟩ = some (.map (some m1)) ∧ w'.cell? ⟨gs, 1, none⟩ = some (.map (some m2)) ∧ w'.cell? ⟨w.heap.size, 0, none⟩ = some (.int .i64 e.k) ∧ w'.cell? ⟨w.heap.size, 1, none⟩ = some (.int .i64 e.op) ∧ w'.cell? ⟨w.heap.size, 2, none⟩ = some (.string e.nm) ∧ w'.cell? ⟨w.heap.size, 3, none⟩ = some (.int .i64 e.v.k) ∧ w'.cell? ⟨w.heap.size, 4, none⟩ = some (.int .i64 e.v.n) ∧ w'.cell? ⟨w.heap.size, 5, none⟩ = some (.string e.v.s) ∧ w'.cell? ⟨w.heap.size, 6, none⟩ = some (.slice X1 e.v.l.length x1) ∧ w'.cell? ⟨w.heap.size, 7, none⟩ = some (.slice X2 e.ar.length x2) ∧ Below w3.heap.size w3 w')
    (first | exact HSB.out _ hq0 | exact HSB.out _ hq0.drew | exact HSB.out _ hb4 | exact HSB.out _ hb4.drew)
    (first | (go_at_call 17; (with_reducible refine (H4.out _ hq0.drew).mono ?_); rintro e4 w4 ⟨rfl, hb4⟩))
  all_goals
    try clear hHeld
    have hbw4 := hbw3.trans (hb4.mono hbw3.size)
    have hbW4 := hbW3.trans (hb4.mono hbW3.size)
    by_cases h3 : f3 = 0
    rotate_left
    · have h3I : (f3 != 0) = true := by simpa using h3
      have hne := h3
      have BRX := HBR.out.below hbW4 HBR.out.lt
      obtain ⟨r0, s0, r1, s1, r2, s2, r3, s3⟩ := Blk.z4 BRX
      have HFF := Lib.hid (show evFault S e at_ row = f3 by rw [HF.out, if_neg (fun h => h rfl), if_neg (fun h => h rfl), if_neg (by decide), if_pos hne])
      go_wp2_with fail
      exact end4t (x := .int .i64 f3) Tryz.results8 rfl rfl BRX hbw4 (Nat.le_add_right _ 2) (fun W9 _ hW9 => ⟨⟨_, by rw [HFF.out], evalV_bad (by rw [HFF.out]; first | exact hne | decide)⟩, hW9⟩)
    subst h3
    by_cases h4 : f4 = 0
    rotate_left
    · have h4I : (f4 != 0) = true := by simpa using h4
      have hne := h4
      have HFF := Lib.hid (show evFault S e at_ row = f4 by rw [HF.out, if_neg (fun h => h rfl), if_neg (fun h => h rfl), if_neg (by decide), if_neg (fun h => h rfl)])
      have BRX := HBR.out.below hbW4 HBR.out.lt
      obtain ⟨r0, s0, r1, s1, r2, s2, r3, s3⟩ := Blk.z4 BRX
      go_wp2_with (go_at_call 18; (with_reducible refine (H5.out _ hbw4).mono ?_); rintro e5 w5 ⟨rfl, rfl⟩)
      exact end4t (x := .int .i64 f4) Tryz.results8 rfl rfl BRX hbw4 (Nat.le_add_right _ 2) (fun W9 _ hW9 => ⟨⟨_, by rw [HFF.out], evalV_bad (by rw [HFF.out]; exact hne)⟩, hW9⟩)
    subst h4
    have HFF := Lib.hid (show evFault S e at_ row = 0 by rw [HF.out]; rfl)
    go_upto_region 15 with (go_at_call 18; (with_reducible refine (H5.out _ hbw4).mono ?_); rintro e5 w5 ⟨rfl, rfl⟩)
    have ec0 : w4.cell? ⟨w.heap.size, 0, none⟩ = some (.int .i64 e.k) := (HBE.out.below hbW4 HBE.out.lt).cell 0
    have ec1 : w4.cell? ⟨w.heap.size, 1, none⟩ = some (.int .i64 e.op) := (HBE.out.below hbW4 HBE.out.lt).cell 1
    have ec2 : w4.cell? ⟨w.heap.size, 2, none⟩ = some (.string e.nm) := (HBE.out.below hbW4 HBE.out.lt).cell 2
    have ec3 : w4.cell? ⟨w.heap.size, 3, none⟩ = some (.int .i64 e.v.k) := (HBE.out.below hbW4 HBE.out.lt).cell 3
    have ec4 : w4.cell? ⟨w.heap.size, 4, none⟩ = some (.int .i64 e.v.n) := (HBE.out.below hbW4 HBE.out.lt).cell 4
    have ec5 : w4.cell? ⟨w.heap.size, 5, none⟩ = some (.string e.v.s) := (HBE.out.below hbW4 HBE.out.lt).cell 5
    have ec6 : w4.cell? ⟨w.heap.size, 6, none⟩ = some (.slice X1 e.v.l.length x1) := (HBE.out.below hbW4 HBE.out.lt).cell 6
    have ec7 : w4.cell? ⟨w.heap.size, 7, none⟩ = some (.slice X2 e.ar.length x2) := (HBE.out.below hbW4 HBE.out.lt).cell 7
    have hSO := scOk_of HF0.out
    obtain ⟨hrw1, hrw2⟩ := rowF_okE HF4.out
    have hk0 : (e.kind S.cells S.loops at_).2 = 0 := by rw [HF3.out]
    have HEV := Lib.hid (show Calls Tryz.prog 20 #[.pointer (some ⟨gs, 0, none⟩), .agg #[.int .i64 e.k, .int .i64 e.op, .string e.nm, .int .i64 e.v.k, .int .i64 e.v.n, .string e.v.s, .slice X1 e.v.l.length x1, .slice X2 e.ar.length x2], .slice A na c, .slice R nr c9] w4 fun en w'' => (∃ x, en = .returned x ∧ VRet w'' B (e.val S at_ row) x) ∧ Below w4.heap.size w4 w'' from by
      have h := eval_any hSO HLL.out e HEF.out at_ row A R c c9 B _ w4 ⟨HSI3.out.keep hb4, HMX.out.1.below hbw4, HMX.out.2.below hbw4⟩ (HX.out.keep (hbw4.mono hB)) (HAT.out.2.1.below (hbw4.mono hB)) (HRW.out.1.below (hbw4.mono hB)) (Nat.le_trans hB hbw4.size) hrw1.symm HAT.out.2.2.1 HRW.out.2.1 HRW.out.2.2 hrw2 hk0
      rw [HNA.out, HNR.out] at h
      exact h)
    have hsm := ok_small (val_ok hSO.sceneOk e HEF.out at_ row kk (by rw [HF3.out]))
    have HVV := Lib.hid (show evalV S e at_ row = toldV kk (e.val S at_ row) by unfold evalV; rw [if_neg (by rw [HFF.out]; decide), HF3.out])
    obtain ⟨v, hv9⟩ : ∃ v, e.val S at_ row = v := ⟨_, rfl⟩
    rw [hv9] at HEV HVV hsm
    have HSM := Lib.hid hsm
    have hgw : w.heap.size + 2 < w4.heap.size := (HBR.out.below hbW4 HBR.out.lt).lt
    clear hSO hrw1 hrw2 hk0 hv9 hsm
    go_wp2_with (first
      | (go_at_call 20; (with_reducible refine HEV.out.mono ?_); rintro e7 w7 ⟨⟨x, rfl, cs7, rfl, ⟨A7, c7, rfl, hr7⟩, hs7, hl7⟩, hb7⟩; have hbw7 := hbw4.trans (hb7.mono hbw4.size))
      | (go_at_call 19; (with_reducible refine (told_any v.k v.n v.s v.l kk A7 c7 B w7 hr7 (Nat.le_trans hB hbw7.size) hs7 HSM.out.2.2).mono ?_); rintro e8 w8 ⟨⟨x, rfl, A8, c8, rfl, ho8, hs8, hl8⟩, hb8⟩; have hbw8 := hbw7.trans (hb8.mono hbw7.size); have BRX := HBR.out.below (hbW4.trans ((hb7.trans (hb8.mono hb7.size)).mono hbW4.size)) HBR.out.lt; obtain ⟨r0, s0, r1, s1, r2, s2, r3, s3⟩ := Blk.z4 BRX))
    have hg7 : w.heap.size + 2 < w7.heap.size := Nat.lt_of_lt_of_le hgw hb7.size
    exact end4t (x := .int .i64 0) Tryz.results8 rfl rfl BRX hbw8 (Nat.le_add_right _ 2) (fun W9 hW9 hbw9 => ⟨⟨_, by rw [HFF.out], by
      rw [HVV.out]
      refine ⟨A8, c8, rfl, own_base9 (B := w7.heap.size) ?_ hbw7.size, hs8, hl8⟩
      rw [hW9]
      exact own_set (own_set (own_set (own_set ho8 (p := ⟨w.heap.size + 2, 0, none⟩) hg7 _) (p := ⟨w.heap.size + 2, 1, none⟩) hg7 _) (p := ⟨w.heap.size + 2, 2, none⟩) hg7 _) (p := ⟨w.heap.size + 2, 3, none⟩) hg7 _⟩, hbw9⟩)
end Go.Proofs.YtpanbeoelbhhgaaGreatDoor
namespace Go.Proofs.YtpanbeoelbhhgaaGreatDoor
open Go.RowKit
attribute [local go_sem ↓] Go.wp_at_zero Go.wp_at_succ
set_option maxHeartbeats 4000000
set_option maxRecDepth 100000
theorem kinds_any (S : SceneD) (e : Ex) (cs : List Value) (at_ : List ByteArray) (A : Option Addr) (c : Nat) (AC AN AB AR : Option Addr) (cc cn cb cr B : Nat) (row : List Int) (R : Option Addr) (c9 : Nat) (w : World) (hC : CellsAt w B AC S.cells) (hN : NestsAt w B AN S.loops) (hLb : BoundsAt w B AB S.bounds) (hLr : RowssAt w B AR S.rows) (hx : ExAt w B e cs) (ha : at_.length ≤ maxLen) (hat : StrsAt w B A at_) (hc : at_.length ≤ c) (hs : ∀ s ∈ at_, s.size ≤ maxLen) (hp : e.parts ≤ 1000000) (hCL : ∀ d ∈ S.cells, d.loops.length ≤ 1048576) (hNL : ∀ d ∈ S.loops, d.loops.length ≤ 1048576) (hrow : Reads w B 1 R row.length (numV .i64 row)) (hrc : row.length ≤ c9) (hrl : row.length ≤ 1048577) (hB : B ≤ w.heap.size) (htab : Tab10 w) (hmx : Mx w) (haw : ∀ w', Below w.heap.size w w' → Calls Tryz.prog 6 #[] w' fun en w'' => en = .returned (.bool true) ∧ Below w'.heap.size w' w'') :
    Calls Tryz.prog 4 #[.agg cs.toArray, .agg #[.slice AC S.cells.length cc, .slice AN S.loops.length cn, .slice AB S.bounds.length cb, .slice AR S.rows.length cr], .slice A at_.length c, .slice R row.length c9] w fun en w' => en = .returned (.bool true) ∧ Below w.heap.size w w' := by
  have HAW := Lib.hid haw
  obtain ⟨f0, hf0⟩ : ∃ f, evFault S e at_ row = f := ⟨_, rfl⟩
  obtain ⟨v, hv⟩ : ∃ v, evalV S e at_ row = v := ⟨_, rfl⟩
  have HLAW := Lib.hid (show f0 = 0 → typeF e S.cells S.loops at_ = ((e.kind S.cells S.loops at_).1, 0) ∧ checkV v = 0 ∧ (v.k = (e.kind S.cells S.loops at_).1 ∨ (v.k = 0 ∧ (e.kind S.cells S.loops at_).1 ≠ 7)) from fun h => hv ▸ law_kinds (hf0.trans h))
  obtain ⟨kk, hkk⟩ : ∃ k, (e.kind S.cells S.loops at_).1 = k := ⟨_, rfl⟩
  rw [hkk] at HLAW
  obtain ⟨n, hn⟩ : ∃ n, at_.length = n := ⟨_, rfl⟩
  obtain ⟨m, hm⟩ : ∃ n, row.length = n := ⟨_, rfl⟩
  have HX := Lib.hid hx
  have hx2 := hx
  obtain ⟨hn0, hs0, hl0, ha0, hx0, hr0, hi0⟩ := hx2
  rename_i X1 x1 X2 x2 cs0
  have H1 := Lib.hid (show ∀ w', Below w.heap.size w w' → Calls Tryz.prog 8 #[.agg #[.int .i64 e.k, .int .i64 e.op, .string e.nm, .int .i64 e.v.k, .int .i64 e.v.n, .string e.v.s, .slice X1 e.v.l.length x1, .slice X2 e.ar.length x2], .agg #[.slice AC S.cells.length cc, .slice AN S.loops.length cn, .slice AB S.bounds.length cb, .slice AR S.rows.length cr], .slice A n c, .slice R m c9] w' fun en w'' => (∃ x, en = .returned (.tuple #[x, .int .i64 f0]) ∧ TRet w'.heap.size w'' v x) ∧ Below w'.heap.size w' w'' from fun w' hb => by
    have h := evalTop_any S e _ at_ A c AC AN AB AR cc cn cb cr B row R c9 w' (hC.keep (hb.mono hB)) (hN.keep (hb.mono hB)) (hLb.keep (hb.mono hB)) (hLr.keep (hb.mono hB)) (HX.out.keep (hb.mono hB)) ha (hat.below (hb.mono hB)) hc hs hp hCL hNL (hrow.below (hb.mono hB)) hrc hrl (Nat.le_trans hB hb.size) (htab.below hb) (hmx.below hb)
    rw [hf0, hv, hn, hm] at h
    exact h)
  have H2 := Lib.hid (show ∀ w', Below w.heap.size w w' → Calls Tryz.prog 10 #[.agg #[.int .i64 e.k, .int .i64 e.op, .string e.nm, .int .i64 e.v.k, .int .i64 e.v.n, .string e.v.s, .slice X1 e.v.l.length x1, .slice X2 e.ar.length x2], .slice AC S.cells.length cc, .slice AN S.loops.length cn, .slice A n c] w' fun en w'' => en = .returned (.tuple #[.int .i64 (typeF e S.cells S.loops at_).1, .int .i64 (typeF e S.cells S.loops at_).2]) ∧ Below w'.heap.size w' w'' from fun w' hb => by
    have h := typeOf_any e S.cells S.loops AC AN cc cn B at_ A c _ w' (HX.out.keep (hb.mono hB)) (hC.keep (hb.mono hB)) (hN.keep (hb.mono hB)) ha (hat.below (hb.mono hB)) hc (Nat.le_trans hB hb.size) hp hNL hs
    rw [hn] at h
    exact h)
  obtain ⟨W, hW, hbw, BE, BS, hsz⟩ := box2 w 27 33 #[.int .i64 e.k, .int .i64 e.op, .string e.nm, .int .i64 e.v.k, .int .i64 e.v.n, .string e.v.s, .slice X1 e.v.l.length x1, .slice X2 e.ar.length x2] #[.slice AC S.cells.length cc, .slice AN S.loops.length cn, .slice AB S.bounds.length cb, .slice AR S.rows.length cr]
  have HBE := Lib.hid BE
  have HBS := Lib.hid BS
  rw [show exCells e X1 x1 X2 x2 = [.int .i64 e.k, .int .i64 e.op, .string e.nm, .int .i64 e.v.k, .int .i64 e.v.n, .string e.v.s, .slice X1 e.v.l.length x1, .slice X2 e.ar.length x2] from rfl]
  change Calls _ _ #[.agg #[.int .i64 e.k, .int .i64 e.op, .string e.nm, .int .i64 e.v.k, .int .i64 e.v.n, .string e.v.s, .slice X1 e.v.l.length x1, .slice X2 e.ar.length x2], _, _, _] _ _
  rw [hn, hm]
  clear hC hN hLb hLr hx hx0 hr0 hi0 hat hc hs ha hCL hNL hrow hrc hrl htab hmx haw hf0 hv hn hm hkk hsz
  go_enter Tryz.func4, Tryz.ntmps4
  go_upto_region 1 with (fail)
  rw [← hW]
  clear hW
  go_upto_region 3 with (go_at_call 6; (with_reducible refine (HAW.out _ hbw).mono ?_); rintro e1 w1 ⟨rfl, hb1⟩)
  have hbw1 := hbw.trans (hb1.mono hbw.size)
  have ec0 : w1.cell? ⟨w.heap.size, 0, none⟩ = some (.int .i64 e.k) := (HBE.out.below hb1 HBE.out.lt).cell 0
  have ec1 : w1.cell? ⟨w.heap.size, 1, none⟩ = some (.int .i64 e.op) := (HBE.out.below hb1 HBE.out.lt).cell 1
  have ec2 : w1.cell? ⟨w.heap.size, 2, none⟩ = some (.string e.nm) := (HBE.out.below hb1 HBE.out.lt).cell 2
  have ec3 : w1.cell? ⟨w.heap.size, 3, none⟩ = some (.int .i64 e.v.k) := (HBE.out.below hb1 HBE.out.lt).cell 3
  have ec4 : w1.cell? ⟨w.heap.size, 4, none⟩ = some (.int .i64 e.v.n) := (HBE.out.below hb1 HBE.out.lt).cell 4
  have ec5 : w1.cell? ⟨w.heap.size, 5, none⟩ = some (.string e.v.s) := (HBE.out.below hb1 HBE.out.lt).cell 5
  have ec6 : w1.cell? ⟨w.heap.size, 6, none⟩ = some (.slice X1 e.v.l.length x1) := (HBE.out.below hb1 HBE.out.lt).cell 6
  have ec7 : w1.cell? ⟨w.heap.size, 7, none⟩ = some (.slice X2 e.ar.length x2) := (HBE.out.below hb1 HBE.out.lt).cell 7
  have es0 : w1.cell? ⟨w.heap.size + 1, 0, none⟩ = some (.slice AC S.cells.length cc) := (HBS.out.below hb1 HBS.out.lt).cell 0
  have es1 : w1.cell? ⟨w.heap.size + 1, 1, none⟩ = some (.slice AN S.loops.length cn) := (HBS.out.below hb1 HBS.out.lt).cell 1
  have es2 : w1.cell? ⟨w.heap.size + 1, 2, none⟩ = some (.slice AB S.bounds.length cb) := (HBS.out.below hb1 HBS.out.lt).cell 2
  have es3 : w1.cell? ⟨w.heap.size + 1, 3, none⟩ = some (.slice AR S.rows.length cr) := (HBS.out.below hb1 HBS.out.lt).cell 3
  go_upto_region 4 with (go_at_call 8; (with_reducible refine (H1.out _ hbw1).mono ?_); rintro e2 w2 ⟨⟨x, rfl, A7, c7, rfl, ho, hs7, hl7⟩, hb2⟩)
  obtain ⟨W3, hw6⟩ : ∃ w6, w6 = w2.alloc (.cells #[.int .i64 v.k, .int .i64 v.n, .string v.s, .slice A7 v.l.length c7] 24 (0, 0)) := ⟨_, rfl⟩
  rw [← hw6]
  have hb23 : Below w2.heap.size w2 W3 := hw6 ▸ below_a w2 _
  have B3 : Blk W3 w2.heap.size 24 #[.int .i64 v.k, .int .i64 v.n, .string v.s, .slice A7 v.l.length c7] := hw6 ▸ Blk.new w2 _ _
  clear hw6
  have hb13 := hb2.trans (hb23.mono hb2.size)
  have hbw3 := hbw1.trans (hb13.mono hbw1.size)
  have hbW3 := hb1.trans (hb13.mono hb1.size)
  have HRD := Lib.hid (show Reads W3 w2.heap.size 1 A7 v.l.length (numV .i64 v.l) from (Reads.of_own ho).below hb23)
  have HB3 := Lib.hid B3
  have HSV := Lib.hid (And.intro hs7 hl7)
  clear ec0 ec1 ec2 ec3 ec4 ec5 ec6 ec7 es0 es1 es2 es3 ho B3 hs7 hl7
  by_cases h0 : f0 = 0
  rotate_left
  · have h0I : (f0 != 0) = true := by simpa using h0
    go_wp2_with fail
    go_ret
    exact ⟨rfl, hbw3⟩
  subst h0
  obtain ⟨ht, hck, hkd⟩ := HLAW.out rfl
  rw [ht] at H2
  have H2 := Lib.hid (show ∀ w', Below w.heap.size w w' → Calls Tryz.prog 10 #[.agg #[.int .i64 e.k, .int .i64 e.op, .string e.nm, .int .i64 e.v.k, .int .i64 e.v.n, .string e.v.s, .slice X1 e.v.l.length x1, .slice X2 e.ar.length x2], .slice AC S.cells.length cc, .slice AN S.loops.length cn, .slice A n c] w' fun en w'' => en = .returned (.tuple #[.int .i64 kk, .int .i64 0]) ∧ Below w'.heap.size w' w'' from H2.out)
  have ec0 : W3.cell? ⟨w.heap.size, 0, none⟩ = some (.int .i64 e.k) := (HBE.out.below hbW3 HBE.out.lt).cell 0
  have ec1 : W3.cell? ⟨w.heap.size, 1, none⟩ = some (.int .i64 e.op) := (HBE.out.below hbW3 HBE.out.lt).cell 1
  have ec2 : W3.cell? ⟨w.heap.size, 2, none⟩ = some (.string e.nm) := (HBE.out.below hbW3 HBE.out.lt).cell 2
  have ec3 : W3.cell? ⟨w.heap.size, 3, none⟩ = some (.int .i64 e.v.k) := (HBE.out.below hbW3 HBE.out.lt).cell 3
  have ec4 : W3.cell? ⟨w.heap.size, 4, none⟩ = some (.int .i64 e.v.n) := (HBE.out.below hbW3 HBE.out.lt).cell 4
  have ec5 : W3.cell? ⟨w.heap.size, 5, none⟩ = some (.string e.v.s) := (HBE.out.below hbW3 HBE.out.lt).cell 5
  have ec6 : W3.cell? ⟨w.heap.size, 6, none⟩ = some (.slice X1 e.v.l.length x1) := (HBE.out.below hbW3 HBE.out.lt).cell 6
  have ec7 : W3.cell? ⟨w.heap.size, 7, none⟩ = some (.slice X2 e.ar.length x2) := (HBE.out.below hbW3 HBE.out.lt).cell 7
  have es0 : W3.cell? ⟨w.heap.size + 1, 0, none⟩ = some (.slice AC S.cells.length cc) := (HBS.out.below hbW3 HBS.out.lt).cell 0
  have es1 : W3.cell? ⟨w.heap.size + 1, 1, none⟩ = some (.slice AN S.loops.length cn) := (HBS.out.below hbW3 HBS.out.lt).cell 1
  have es2 : W3.cell? ⟨w.heap.size + 1, 2, none⟩ = some (.slice AB S.bounds.length cb) := (HBS.out.below hbW3 HBS.out.lt).cell 2
  have es3 : W3.cell? ⟨w.heap.size + 1, 3, none⟩ = some (.slice AR S.rows.length cr) := (HBS.out.below hbW3 HBS.out.lt).cell 3
  go_upto_region 7 with (go_at_call 10; (with_reducible refine (H2.out _ hbw3).mono ?_); rintro e4 w4 ⟨rfl, hb4⟩)
  have hbw4 := hbw3.trans (hb4.mono hbw3.size)
  have H5 := Lib.hid (show Calls Tryz.prog 11 #[.agg #[.int .i64 v.k, .int .i64 v.n, .string v.s, .slice A7 v.l.length c7]] w4 fun en w'' => en = .returned (.int .i64 0) ∧ Below w4.heap.size w4 w'' from by
    have h := check_any v A7 c7 w2.heap.size w4 HSV.out.2 HSV.out.1 (HRD.out.below (hb4.mono hb23.size)) (Nat.le_trans hb23.size hb4.size)
    rw [hck] at h
    exact h)
  obtain ⟨x0, -, x1', -, x2', -, x3, -⟩ := Blk.z4 (HB3.out.below hb4 HB3.out.lt)
  clear ec0 ec1 ec2 ec3 ec4 ec5 ec6 ec7 es0 es1 es2 es3
  by_cases hq : v.k = kk
  case' pos => have hqI : (v.k == kk) = true := by simpa using hq
  case' neg =>
    have hqI : (v.k == kk) = false := by simpa using hq
    have hq0 : (v.k == 0) = true := by simpa using (hkd.resolve_left hq).1
    have hq7 : (kk != 7) = true := by simpa using (hkd.resolve_left hq).2
  all_goals
    clear hq hkd ht hck
    go_wp2_with (go_at_call 11; (with_reducible refine H5.out.mono ?_); rintro e5 w5 ⟨rfl, hb5⟩; have hbw5 := hbw4.trans (hb5.mono hbw4.size); obtain ⟨x0, -, x1', -, x2', -, x3, -⟩ := Blk.z4 (HB3.out.below (hb4.trans (hb5.mono hb4.size)) HB3.out.lt))
    go_ret
    exact ⟨rfl, hbw5⟩
end Go.Proofs.YtpanbeoelbhhgaaGreatDoor
namespace Go.Proofs.YtpanbeoelbhhgaaGreatDoor
open Go.RowKit
theorem tab_ten {w : World} (h : Tab10 w) : TabR9 w := h
end Go.Proofs.YtpanbeoelbhhgaaGreatDoor
namespace Go.Proofs.YtpanbeoelbhhgaaGreatDoor
open Go.ChangeShapes Go.WideShapes Go.ChangeAt Go.RowKit Go.Joins
theorem own : ownKnob Tryz.prog.godebug = none := by kernel_rfl
theorem laidOut : laidOutB Tryz.prog = true := by kernel_rfl
theorem below_trodAll {H : Type} {enc : TypeId × Value → H} {P : Program} {W W' : World} (hl : laidOutB P = true) (hb : Below W.heap.size W W') :
    ∀ {ts : List TypeId} {vs : List Value} {ds : List (DataW H)} {ps : List MemPlace}, (∀ t ∈ ts, P.readableRec t = true ∧ t < P.types.size) →
    DataW.TrodAll enc P W 0 (fun _ => true) true ts vs ds ps → (∀ x ∈ ps, x.block < W.heap.size) → DataW.TrodAll enc P W' 0 (fun b => decide (b < W.heap.size)) true ts vs ds ps
  | [], [], [], _, _, h, _ => h
  | _ :: _, _ :: _, _ :: _, _, hr, ⟨p, q, h1, h2, e⟩, hs =>
    ⟨p, q, Below.trod hl (hr _ (List.mem_cons.2 (Or.inl rfl))).1 (hr _ (List.mem_cons.2 (Or.inl rfl))).2 h1 hb (fun x hx => hs x (by rw [e]; exact List.mem_append_left _ hx)),
      below_trodAll hl hb (fun t ht => hr t (List.mem_cons.2 (Or.inr ht))) h2 (fun x hx => hs x (by rw [e]; exact List.mem_append_right _ hx)), e⟩
  | [], [], _ :: _, _, _, h, _ => h.elim
  | [], _ :: _, _, _, _, h, _ => by cases h
  | _ :: _, [], _, _, _, h, _ => by cases h
  | _ :: _, _ :: _, [], _, _, h, _ => h.elim
theorem law_post {H : Type} {enc : TypeId × Value → H} {f : Func} {s : ChangeSpec} {W W' : World} {args : Array Value} {ds gs : List (DataW H)} {before : List MemPlace}
    (hr : ∀ t ∈ f.params.toList, Tryz.prog.readableRec t = true ∧ t < Tryz.prog.types.size) (hrt : f.resultTypes = #[4]) (hv : s.vars = [])
    (h1 : (s.fn H (ds ++ gs)).results = [.lit (.bool true)]) (h2 : (s.fn H (ds ++ gs)).args = ds) (h3 : (s.fn H (ds ++ gs)).vars = [])
    (hW : DataW.Whole enc Tryz.prog f.params.toList s.vars false W args.toList ds gs before) (hb : Below W.heap.size W W') : s.post enc Tryz.prog f false true false false W args (.bool true) W' := by
  have hlt := hW.lt
  have hW0 := hW
  obtain ⟨p, q, hA, hV, rfl, _, _⟩ := hW
  refine ⟨ds, gs, p ++ q, [], p, [], hW0, ?_, ?_, ?_, hb.frame _, fun h => by cases h⟩
  · rw [h1, hrt]
    exact ⟨[], [], shut_bool Tryz.underlying4 true, rfl, rfl⟩
  · rw [h2]
    exact below_trodAll laidOut hb hr hA (fun x hx => by simpa using hlt x (List.mem_append_left _ hx))
  · rw [h3, hv]; rfl
def laidList : List (String × DataW Unit) := [("math/bits.deBruijn32tab", Rows.laid_math_bits_deBruijn32tab), ("math/bits.deBruijn64tab", Rows.laid_math_bits_deBruijn64tab), ("internal/strconv.uint64pow10", Rows.laid_internal_strconv_uint64pow10), ("unicode/utf8.acceptRanges", Rows.laid_unicode_utf8_acceptRanges), ("unicode/utf8.first", Rows.laid_unicode_utf8_first)]
theorem plainList : (laidList.all fun x => x.2.handleName?.isNone) = true := by kernel_rfl
theorem tab_of_g : Tryz.prog.globalNamed "internal/strconv.uint64pow10" = some 5 := by kernel_rfl
theorem tab_of_gt : (Tryz.prog.globals[5]?).map (·.type) = some 245 := by kernel_rfl
theorem tab_of_c : Tryz.prog.cellsOf 245 = 20 := by kernel_rfl
theorem tab_of_e : Tryz.prog.cellsOf 82 = 1 := by kernel_rfl
theorem tab_of_data : (Rows.laid_internal_strconv_uint64pow10 : DataW Unit) = Lib.tabData .u64 Lib.pow10Tab := by kernel_rfl
/-- what the row's list gives: the table 'internal/strconv.uint64pow10' -/
theorem tab_of {W : World} (h : laidMetH Tryz.prog laidList W) : Tab10 W := by
  rw [MakeChecks.laidMetH_plain _ _ _ plainList] at h
  have h3 := (laidMet.tail (laidMet.tail h))
  unfold Tab10
  rw [tab_of_data] at h3
  exact Lib.tabIs_of_head tab_of_g tab_of_gt Tryz.underlying245 Tryz.underlying82 tab_of_e tab_of_c h3
/-- Go's own bound holds a number: the settled world's shape -/
theorem mx_of {W : World} (h : W.ShapedOpen Tryz.prog) : Mx W :=
  cell_of_shapedOpen_int (zero := #[.int .i64 0]) (t := 3) h (by decide +kernel) (by kernel_rfl) rfl (by kernel_rfl) (by kernel_rfl) Tryz.underlying3
/-- the cells of a datum of integers, nested -/
def flat1 : DataW Unit → List Value
  | .lit (.int k n) => [.int k n]
  | _ => []
def flat2 : DataW Unit → List Value
  | .agg l => l.flatMap flat1
  | d => flat1 d
def flat3 : DataW Unit → List Value
  | .agg l => l.flatMap flat2
  | d => flat1 d
def cellsOfD (d : DataW Unit) (o : Obj) : Obj := match o with
  | .cells _ t frozen => .cells (flat3 d).toArray t frozen
  | o => o
noncomputable def laidWorld (os : Os) : World :=
  { World.holding Tryz.prog os ⟨#[], #[], []⟩ with heap := ((((((World.holding Tryz.prog os ⟨#[], #[], []⟩).heap.modify 9 (cellsOfD Rows.laid_math_bits_deBruijn32tab)).modify 10 (cellsOfD Rows.laid_math_bits_deBruijn64tab)).modify 5 (cellsOfD Rows.laid_internal_strconv_uint64pow10)).modify 8 (cellsOfD Rows.laid_unicode_utf8_acceptRanges)).modify 7 (cellsOfD Rows.laid_unicode_utf8_first)) }
end Go.Proofs.YtpanbeoelbhhgaaGreatDoor
