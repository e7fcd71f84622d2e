/- The walk of minus. · The walk of call. -/
import Derived.Test.YtobanldeicclmaaGreatDoorP16
import Derived.Test.YtobanldeicclmaaGreatDoorP14
namespace Go.Proofs.YtobanldeicclmaaGreatDoor
open Go.RowKit Vtx
attribute [local go_sem ↓] Go.wp_at_zero Go.wp_at_succ
theorem const_in {w : World} {q : Nat → Prop} {x : Val} {A : Option Addr} {c : Nat} (hr : Reads w w.heap.size 1 A x.l.length (numV .i64 x.l)) (hA : ∀ ad, A = some ad → q ad.block) (hl : x.l.length ≤ maxLen) (hs : x.s.size ≤ maxLen) : ExIn w q w.heap.size (constE x) (exCells (constE x) A c none 0) :=
  ExIn.mk (e := constE x) (cs := []) (show 0 ≤ maxLen from Nat.zero_le _) hs hl (show 0 ≤ maxLen from Nat.zero_le _) ⟨hr, fun _ => hA⟩ ⟨Reads.none_, fun _ ad e => by cases e⟩ (fun i hi => absurd hi (by simp [constE, Ex.ar]))
set_option maxHeartbeats 8000000 in
set_option maxRecDepth 100000 in
theorem minus_spec (s : ByteArray) (L : List Tok) (hN : ∀ L', L'.length < L.length → PSpec 151 .minus s L') (hS : PSpec 159 .primary s L) : PSpec 151 .minus s L := by
  intro g i w hp hm hL
  have HPA := Lib.hid hp
  have HM := Lib.hid hm
  have hlt := hp.b.lt
  have HPI := Lib.hid (Pz_eq s.data.toList.length .minus [] L)
  obtain ⟨R, hR⟩ : ∃ R, Pz s.data.toList.length .minus [] L = R := ⟨_, rfl⟩
  rw [hR] at HPI ⊢
  dsimp only [stepP] at HPI
  obtain ⟨b, hb⟩ : ∃ b, isW L [45] = b := ⟨_, rfl⟩
  have HI := Lib.hid (fun (W' : World) (hp : PaAt W' g s i) => is_any g s i W' hp [45] (by decide))
  rw [hL, hb, show tb [45] = ⟨#[45]⟩ from rfl] at HI
  have HBW := Lib.hid hb
  clear hR hb
  cases b
  · have HPI := Lib.hid (HPI.out.trans (if_neg (by rw [HBW.out]; decide)))
    have HC := Lib.hid (fun W' (hp : PaAt W' g s i) hm => hS g i W' hp hm hL)
    rw [← HPI.out] at HC
    clear hp hm hN hS
    go_enter Tryz.func151, Tryz.ntmps151
    go_upto_region 1 with (fail)
    obtain ⟨W, hW⟩ : ∃ W, W = w.alloc (.cells #[.int .i64 0, .int .i64 0, .string ⟨#[]⟩, .int .i64 0, .int .i64 0, .string ⟨#[]⟩, .slice none 0 0, .slice none 0 0] 27 (0, 0)) := ⟨_, rfl⟩
    have hkW : Kp g w W := by rw [hW]; exact (kp_refl g w).alloc _
    have HPW := Lib.hid (show PaAt W g s i by rw [hW]; exact HPA.out.alloc _)
    have HMW := Lib.hid (HM.out.kp hkW)
    have BR : Blk W w.heap.size 27 #[.int .i64 0, .int .i64 0, .string ⟨#[]⟩, .int .i64 0, .int .i64 0, .string ⟨#[]⟩, .slice none 0 0, .slice none 0 0] := by rw [hW]; exact Blk.new w _ _
    have hWs : w.heap.size < W.heap.size := BR.lt
    have hszW : W.heap.size = w.heap.size + 1 := by rw [hW]; simp
    have HBR := Lib.hid BR
    rw [← hW]
    clear hW BR
    go_wp2_with (go_at_call 84; (with_reducible refine (HI.out _ HPW.out).mono ?_); rintro e w2 ⟨rfl, rfl⟩)
    refine (HC.out W HPW.out HMW.out).mono ?_
    cases R with
    | err k =>
      rintro e w1 ⟨rfl, hk1⟩
      go_wp2_with fail
      exact ⟨rfl, rfl, hkW.trans hk1⟩
    | ok es l1 =>
      rintro e w1 ⟨y, i1, cs1, rfl, rfl, rfl, hx1, hp1, hk1⟩
      have HX1 := Lib.hid hx1
      obtain ⟨hn1, hs1, hl1, ha1, hxx1, hrr1, hii1⟩ := hx1
      rename_i A1 c1 A2 c2 csi1
      clear hxx1 hrr1 hii1 hn1 hs1 hl1 ha1
      have exa1 : (exCells y A1 c1 A2 c2).toArray = #[.int .i64 y.k, .int .i64 y.op, .string y.nm, .int .i64 y.v.k, .int .i64 y.v.n, .string y.v.s, .slice A1 y.v.l.length c1, .slice A2 y.ar.length c2] := rfl
      rw [exa1]
      clear exa1
      have B1 := HBR.out.kp hk1 (by omega)
      have rc0 : w1.cell? ⟨w.heap.size, 0, none⟩ = some (.int .i64 0) := B1.cell 0
      have rz0 : w1.frozen? ⟨w.heap.size, 0, none⟩ = false := B1.frozen 0
      have rc1 : w1.cell? ⟨w.heap.size, 1, none⟩ = some (.int .i64 0) := B1.cell 1
      have rz1 : w1.frozen? ⟨w.heap.size, 1, none⟩ = false := B1.frozen 1
      have rc2 : w1.cell? ⟨w.heap.size, 2, none⟩ = some (.string ⟨#[]⟩) := B1.cell 2
      have rz2 : w1.frozen? ⟨w.heap.size, 2, none⟩ = false := B1.frozen 2
      have rc3 : w1.cell? ⟨w.heap.size, 3, none⟩ = some (.int .i64 0) := B1.cell 3
      have rz3 : w1.frozen? ⟨w.heap.size, 3, none⟩ = false := B1.frozen 3
      have rc4 : w1.cell? ⟨w.heap.size, 4, none⟩ = some (.int .i64 0) := B1.cell 4
      have rz4 : w1.frozen? ⟨w.heap.size, 4, none⟩ = false := B1.frozen 4
      have rc5 : w1.cell? ⟨w.heap.size, 5, none⟩ = some (.string ⟨#[]⟩) := B1.cell 5
      have rz5 : w1.frozen? ⟨w.heap.size, 5, none⟩ = false := B1.frozen 5
      have rc6 : w1.cell? ⟨w.heap.size, 6, none⟩ = some (.slice none 0 0) := B1.cell 6
      have rz6 : w1.frozen? ⟨w.heap.size, 6, none⟩ = false := B1.frozen 6
      have rc7 : w1.cell? ⟨w.heap.size, 7, none⟩ = some (.slice none 0 0) := B1.cell 7
      have rz7 : w1.frozen? ⟨w.heap.size, 7, none⟩ = false := B1.frozen 7
      go_wp2_with fail
      refine bodyPost_ret (v := .agg #[.int .i64 y.k, .int .i64 y.op, .string y.nm, .int .i64 y.v.k, .int .i64 y.v.n, .string y.v.s, .slice A1 y.v.l.length c1, .slice A2 y.ar.length c2]) (by simp [results, Tryz.results151, go_sem, rc0, rc1, rc2, rc3, rc4, rc5, rc6, rc7]) rfl ?_
      exact ret8 HX1.out hWs hlt hp1 (hkW.trans hk1)
  · have HPI := Lib.hid (HPI.out.trans (if_pos HBW.out))
    have htl := words_tail' (s := s) (i := i) (by rw [hL]; intro e; have h := HBW.out; rw [e] at h; cases h)
    have HN := Lib.hid (fun W (hp : PaAt W g s i) => next_any g s i W hp)
    obtain ⟨t, ht⟩ : ∃ t, tokAt s.data.toList i = some t := by
      cases ht : tokAt s.data.toList i with
      | none => have h := HBW.out; rw [← hL, tok_none ht] at h; cases h
      | some t => exact ⟨t, rfl⟩
    obtain ⟨ea, et, eh⟩ := cur_of ht
    have hLt : L = t :: wordsOf s.data.toList (t.at_ + t.tx.length) := by rw [← hL, words_eq, ht]
    have htx : t.tx = [45] := by have h := HBW.out; rw [hLt] at h; simp [isW] at h; exact h.2
    have hti := tok_in ht
    rw [data_len] at hti
    have hnum := num_iff ht (by rw [htx]; rfl)
    rw [← hLt, data_len] at hnum
    obtain ⟨P0, hP0⟩ : ∃ P0, t.at_ = P0 := ⟨_, rfl⟩
    obtain ⟨i2, hi2⟩ : ∃ i2, curAt s i + (curTx s i).length = i2 := ⟨_, rfl⟩
    have hi2' : i2 = P0 + 1 := by rw [← hi2, ea, et, htx, hP0]; rfl
    rw [hi2] at HN htl
    rw [hP0] at hnum
    have HTL := Lib.hid htl
    have HHL := Lib.hid hL
    have hP0s : P0 < s.size := by rw [← hP0]; exact hti.2.1
    have hPs4 := hp.s
    have HCB := Lib.hid (show Blk w g 65 #[.string s, .int .i64 (P0 : Nat), .string ⟨#[45]⟩, .bool t.touch] from by
      have h := hp.b
      rw [ea, et, eh, hP0, htx] at h
      exact h)
    have hE1 : IntKind.i64.wrap (((P0 : Nat) : Int) + 1) = ((P0 + 1 : Nat) : Int) := by rw [show ((P0 : Nat) : Int) + 1 = ((P0 + 1 : Nat) : Int) by omega]; exact IntWalk.i64_in _ (by omega)
    have HUN := Lib.hid (fun L' (h : L'.length < L.length) => hN L' h)
    have HTK := Lib.hid (And.intro hLt (And.intro htx hP0))
    clear ea et eh hti hi2 htl ht hLt htx hP0 hN hS
    by_cases hl1 : P0 + 1 < s.size
    · obtain ⟨bd, hbd⟩ : ∃ b, digB (s[P0 + 1]'hl1) = b := ⟨_, rfl⟩
      have HDG := Lib.hid (fun w' => (show Calls Tryz.prog 80 #[.int .u8 ((s[P0 + 1]'hl1).toNat : Nat)] w' fun e w'' => e = .returned (.bool bd) ∧ w' = w'' from (isDigit_any (s[P0 + 1]'hl1) w').mono fun e w'' ⟨he, hw⟩ => ⟨he.trans (congrArg (fun x => Ending.returned (.bool x)) hbd), hw⟩))
      rw [decide_eq_true hl1, Bool.true_and, getD_ba hl1, hbd] at hnum
      have hl1i : ((P0 + 1 : Nat) : Int) < ((s.size : Nat) : Int) := by omega
      have hl1j : ((P0 : Nat) : Int) + 1 < ((s.size : Nat) : Int) := by omega
      clear hbd hp hm
      cases bd
      · have HPI := Lib.hid (HPI.out.trans (if_neg (by rw [hnum]; decide)))
        clear hnum
        obtain ⟨r2, hr2⟩ : ∃ r, Pz s.data.toList.length .minus [] (wordsOf s.data.toList i2) = r := ⟨_, rfl⟩
        have HC2 := Lib.hid (fun W' (hp : PaAt W' g s i2) hm => hr2 ▸ HUN.out (wordsOf s.data.toList i2) (by have := HTL.out.2; rw [hL] at this; omega) g i2 W' hp hm rfl)
        have HR2 := Lib.hid hr2
        clear hr2
        go_enter Tryz.func151, Tryz.ntmps151
        go_upto_region 1 with (fail)
        obtain ⟨W, hW⟩ : ∃ W, W = w.alloc (.cells #[.int .i64 0, .int .i64 0, .string ⟨#[]⟩, .int .i64 0, .int .i64 0, .string ⟨#[]⟩, .slice none 0 0, .slice none 0 0] 27 (0, 0)) := ⟨_, rfl⟩
        have hkW : Kp g w W := by rw [hW]; exact (kp_refl g w).alloc _
        have HPW := Lib.hid (show PaAt W g s i by rw [hW]; exact HPA.out.alloc _)
        have HMW := Lib.hid (HM.out.kp hkW)
        have BR : Blk W w.heap.size 27 #[.int .i64 0, .int .i64 0, .string ⟨#[]⟩, .int .i64 0, .int .i64 0, .string ⟨#[]⟩, .slice none 0 0, .slice none 0 0] := by rw [hW]; exact Blk.new w _ _
        have hWs : w.heap.size < W.heap.size := BR.lt
        have hszW : W.heap.size = w.heap.size + 1 := by rw [hW]; simp
        have HBR := Lib.hid BR
        have HCW := Lib.hid (show Blk W g 65 #[.string s, .int .i64 (P0 : Nat), .string ⟨#[45]⟩, .bool t.touch] by rw [hW]; exact HCB.out.alloc _)
        rw [← hW]
        clear hW BR
        have c0 : W.cell? ⟨g, 0, none⟩ = some (.string s) := HPW.out.b.cell 0
        have c1 : W.cell? ⟨g, 1, none⟩ = some (.int .i64 (P0 : Nat)) := HCW.out.cell 1
        go_wp2_with (first | (go_at_call 84; (with_reducible refine (HI.out _ HPW.out).mono ?_); rintro e w3 ⟨rfl, rfl⟩) | (go_at_call 80; (with_reducible refine (HDG.out _).mono ?_); rintro e w3 ⟨rfl, rfl⟩) | (go_at_call 30; (with_reducible refine (HN.out _ HPW.out).mono ?_); rintro e w2 ⟨rfl, hp2, hk2⟩; have HP2 := Lib.hid hp2; have HW2 := Lib.hid hk2; have HK2 := Lib.hid (hkW.trans hk2); have HBR2 := Lib.hid (HBR.out.kp hk2 (by omega)); clear hp2 hk2))
        refine (HC2.out w2 HP2.out (HM.out.kp HK2.out)).mono ?_
        have hszW2 : W.heap.size ≤ w2.heap.size := HW2.out.size
        cases r2 with
        | err k2 =>
          rintro e w5 ⟨rfl, hk5⟩
          have hend : R = .err k2 := by rw [HPI.out, ← HHL.out, ← HTL.out.1]; rw [HR2.out]; rfl
          go_wp2_with fail
          refine ⟨rfl, ?_⟩
          rw [hend]
          exact ⟨rfl, HK2.out.trans hk5⟩
        | ok es2 l2 =>
          rintro e w5 ⟨y, i4, cs5, rfl, rfl, rfl, hx5, hp5, hk5⟩
          have HX5 := Lib.hid hx5
          obtain ⟨hn5, hs5, hl5, ha5, hxx5, hrr5, hii5⟩ := hx5
          rename_i A1 c1 A2 c2 csi5
          clear hxx5 hrr5 hii5 hn5 hs5 hl5 ha5
          have exa5 : (exCells y A1 c1 A2 c2).toArray = #[.int .i64 y.k, .int .i64 y.op, .string y.nm, .int .i64 y.v.k, .int .i64 y.v.n, .string y.v.s, .slice A1 y.v.l.length c1, .slice A2 y.ar.length c2] := rfl
          rw [exa5]
          clear exa5
          have hend : R = .ok [mkOp 20 [y]] (wordsOf s.data.toList i4) := by rw [HPI.out, ← HHL.out, ← HTL.out.1]; rw [HR2.out]; rfl
          have HB5 := Lib.hid (HBR2.out.kp hk5 (by omega))
          have hs5 := hk5.size
          go_wp2_with fail
          refine (operation_any 20 _ 1 1 _).mono ?_
          rintro e w6 ⟨rfl, hb6⟩
          have B6 := (HB5.out.alloc (.cells #[.int .i64 y.k, .int .i64 y.op, .string y.nm, .int .i64 y.v.k, .int .i64 y.v.n, .string y.v.s, .slice A1 y.v.l.length c1, .slice A2 y.ar.length c2] 27 (0, 0))).below hb6 (HB5.out.alloc _).lt
          have rc0 : w6.cell? ⟨w.heap.size, 0, none⟩ = some (.int .i64 0) := B6.cell 0
          have rz0 : w6.frozen? ⟨w.heap.size, 0, none⟩ = false := B6.frozen 0
          have rc1 : w6.cell? ⟨w.heap.size, 1, none⟩ = some (.int .i64 0) := B6.cell 1
          have rz1 : w6.frozen? ⟨w.heap.size, 1, none⟩ = false := B6.frozen 1
          have rc2 : w6.cell? ⟨w.heap.size, 2, none⟩ = some (.string ⟨#[]⟩) := B6.cell 2
          have rz2 : w6.frozen? ⟨w.heap.size, 2, none⟩ = false := B6.frozen 2
          have rc3 : w6.cell? ⟨w.heap.size, 3, none⟩ = some (.int .i64 0) := B6.cell 3
          have rz3 : w6.frozen? ⟨w.heap.size, 3, none⟩ = false := B6.frozen 3
          have rc4 : w6.cell? ⟨w.heap.size, 4, none⟩ = some (.int .i64 0) := B6.cell 4
          have rz4 : w6.frozen? ⟨w.heap.size, 4, none⟩ = false := B6.frozen 4
          have rc5 : w6.cell? ⟨w.heap.size, 5, none⟩ = some (.string ⟨#[]⟩) := B6.cell 5
          have rz5 : w6.frozen? ⟨w.heap.size, 5, none⟩ = false := B6.frozen 5
          have rc6 : w6.cell? ⟨w.heap.size, 6, none⟩ = some (.slice none 0 0) := B6.cell 6
          have rz6 : w6.frozen? ⟨w.heap.size, 6, none⟩ = false := B6.frozen 6
          have rc7 : w6.cell? ⟨w.heap.size, 7, none⟩ = some (.slice none 0 0) := B6.cell 7
          have rz7 : w6.frozen? ⟨w.heap.size, 7, none⟩ = false := B6.frozen 7
          go_wp2_with fail
          refine bodyPost_ret (v := .agg #[.int .i64 4, .int .i64 20, .string ⟨#[]⟩, .int .i64 0, .int .i64 0, .string ⟨#[]⟩, .slice none 0 0, .slice (some ⟨w5.heap.size, 0, none⟩) 1 1]) (by simp [results, Tryz.results151, go_sem, rc0, rc1, rc2, rc3, rc4, rc5, rc6, rc7]) rfl ?_
          rw [hend]
          exact ret8 (L := W.heap.size) (one_in 20 (HX5.out.imp (fun k hk _ => by omega)) hb6 (fun k hk => by omega)) hWs hlt ((hp5.alloc _).below hb6) (((HK2.out.trans hk5).alloc _).trans (Kp.of hb6))
      · have HPI := Lib.hid (HPI.out.trans (if_pos hnum))
        have HNUM := Lib.hid hnum
        clear hnum
        obtain ⟨u, tl, htu, hut⟩ : ∃ u tl, wordsOf s.data.toList (t.at_ + t.tx.length) = u :: tl ∧ True := by
          cases h : wordsOf s.data.toList (t.at_ + t.tx.length) with
          | nil => have h1 := HNUM.out; rw [HTK.out.1, h] at h1; cases h1
          | cons u tl => exact ⟨u, tl, rfl, trivial⟩
        have hi2t : t.at_ + t.tx.length = i2 := by rw [hi2', HTK.out.2.1, HTK.out.2.2]; rfl
        have hwt := word_tok htu
        rw [hi2t] at hwt htu
        obtain ⟨ea2, et2, -⟩ := cur_of hwt.1
        have HTU := Lib.hid (show wordsOf s.data.toList (t.at_ + t.tx.length) = u :: wordsOf s.data.toList (curAt s i2 + (curTx s i2).length) by rw [hi2t, htu, ea2, et2, ← hwt.2])
        have hul := tok_in hwt.1
        rw [data_len] at hul
        have HET := Lib.hid et2
        have hus : u.tx.length ≤ 4000 := by omega
        have hcat : ((⟨#[45]⟩ : ByteArray) ++ tb u.tx) = tb (45 :: u.tx) := by
          refine ByteArray.ext ?_
          rw [ByteArray.data_append]
          simp [tb]
        have HCAT := Lib.hid hcat
        obtain ⟨v, hv⟩ : ∃ v, tb u.tx = v := ⟨_, rfl⟩
        have HV0 := Lib.hid hv
        have hvs : v.size ≤ 4000 := by rw [← hv, tb_size]; exact hus
        clear hut hi2t hwt ea2 et2 htu hul hcat
        go_enter Tryz.func151, Tryz.ntmps151
        go_upto_region 1 with (fail)
        obtain ⟨W, hW⟩ : ∃ W, W = w.alloc (.cells #[.int .i64 0, .int .i64 0, .string ⟨#[]⟩, .int .i64 0, .int .i64 0, .string ⟨#[]⟩, .slice none 0 0, .slice none 0 0] 27 (0, 0)) := ⟨_, rfl⟩
        have hkW : Kp g w W := by rw [hW]; exact (kp_refl g w).alloc _
        have HPW := Lib.hid (show PaAt W g s i by rw [hW]; exact HPA.out.alloc _)
        have HMW := Lib.hid (HM.out.kp hkW)
        have BR : Blk W w.heap.size 27 #[.int .i64 0, .int .i64 0, .string ⟨#[]⟩, .int .i64 0, .int .i64 0, .string ⟨#[]⟩, .slice none 0 0, .slice none 0 0] := by rw [hW]; exact Blk.new w _ _
        have hWs : w.heap.size < W.heap.size := BR.lt
        have hszW : W.heap.size = w.heap.size + 1 := by rw [hW]; simp
        have HBR := Lib.hid BR
        have HCW := Lib.hid (show Blk W g 65 #[.string s, .int .i64 (P0 : Nat), .string ⟨#[45]⟩, .bool t.touch] by rw [hW]; exact HCB.out.alloc _)
        rw [← hW]
        clear hW BR
        have c0 : W.cell? ⟨g, 0, none⟩ = some (.string s) := HPW.out.b.cell 0
        have c1 : W.cell? ⟨g, 1, none⟩ = some (.int .i64 (P0 : Nat)) := HCW.out.cell 1
        go_wp2_with (first | (go_at_call 84; (with_reducible refine (HI.out _ HPW.out).mono ?_); rintro e w3 ⟨rfl, rfl⟩) | (go_at_call 80; (with_reducible refine (HDG.out _).mono ?_); rintro e w3 ⟨rfl, rfl⟩) | (go_at_call 30; (with_reducible refine (HN.out _ HPW.out).mono ?_); rintro e w2 ⟨rfl, hp2, hk2⟩; have HP2 := Lib.hid hp2; have HW2 := Lib.hid hk2; have HK2 := Lib.hid (hkW.trans hk2); have HBR2 := Lib.hid (HBR.out.kp hk2 (by omega)); have d2 : w2.cell? ⟨g, 2, none⟩ = some (.string v) := by { have h := hp2.b.cell 2; rw [HET.out, HV0.out] at h; exact h }; clear hp2 hk2))
        have hdat : ((⟨#[45]⟩ : ByteArray) ++ v) = tb (45 :: u.tx) := by rw [← HV0.out]; exact HCAT.out
        have HMT := Lib.hid (HM.out.kp HK2.out).tab
        rw [show (⟨#[45]⟩ : ByteArray) ++ v = tb (45 :: u.tx) from hdat]
        refine (Read_any (tb (45 :: u.tx)) w2 (by rw [tb_size]; simp; omega) HMT.out.1 HMT.out.2).mono ?_
        rw [tb_data]
        clear hdat
        rintro e w3 ⟨hrv, hb3⟩
        obtain ⟨x, A, c, f, rfl, hrd, hA, hxl, hxs, q1, q2⟩ := hrv.ex
        have hxl8 : x.l.length ≤ maxLen := by unfold maxLen; omega
        have hxs8 : x.s.size ≤ maxLen := by unfold maxLen; omega
        have HRD := Lib.hid (And.intro hrd hA)
        have HQ := Lib.hid (And.intro q1 q2)
        have hsz3 := hb3.size
        have HPB3 := Lib.hid (HP2.out.below hb3)
        have HBRB3 := Lib.hid (HBR2.out.below hb3 HBR2.out.lt)
        have HK3 := Lib.hid (HK2.out.trans (Kp.of hb3))
        have hszW2 : W.heap.size ≤ w2.heap.size := HW2.out.size
        clear hrv hrd hA q1 q2 hxl hxs hb3
        by_cases hf : f = 0
        · have HV := Lib.hid (HQ.out.1 hf)
          have hrf := readF_yes HV.out.1 HV.out.2
          have HRF := Lib.hid hrf
          subst hf
          clear hrf
          go_upto_region 7 with (fail)
          obtain ⟨W3, hW3⟩ : ∃ W3, W3 = w3.alloc (.cells #[.int .i64 x.k, .int .i64 x.n, .string x.s, .slice A x.l.length c] 24 (0, 0)) := ⟨_, rfl⟩
          have HP3 := Lib.hid (show PaAt W3 g s i2 by rw [hW3]; exact HPB3.out.alloc _)
          have HBR3 := Lib.hid (show Blk W3 w.heap.size 27 #[.int .i64 0, .int .i64 0, .string ⟨#[]⟩, .int .i64 0, .int .i64 0, .string ⟨#[]⟩, .slice none 0 0, .slice none 0 0] by rw [hW3]; exact HBRB3.out.alloc _)
          have HBV := Lib.hid (show Blk W3 w3.heap.size 24 #[.int .i64 x.k, .int .i64 x.n, .string x.s, .slice A x.l.length c] by rw [hW3]; exact Blk.new w3 _ _)
          have HKW3 := Lib.hid (show Kp g w W3 by rw [hW3]; exact HK3.out.alloc _)
          have hszW3 : W3.heap.size = w3.heap.size + 1 := by rw [hW3]; simp
          have HXR := Lib.hid (show Reads W3 W3.heap.size 1 A x.l.length (numV .i64 x.l) by
            have h1 : Below w3.heap.size w3 W3 := by rw [hW3]; exact (Below.refl _ _).alloc (Nat.le_refl _) _
            exact (HRD.out.1.below h1).more h1.size)
          rw [← hW3]
          clear hW3
          have hglt : g < w3.heap.size := HPB3.out.b.lt
          go_wp2_with (go_at_call 30; (with_reducible refine (next_any g s i2 _ HP3.out).mono ?_); rintro e w4 ⟨rfl, hp4, hk4⟩; have HP4 := Lib.hid hp4; have HK4 := Lib.hid hk4; have BV4 := HBV.out.kp hk4 (by omega); have BR4 := HBR3.out.kp hk4 (by omega); have vc0 : w4.cell? ⟨w3.heap.size, 0, none⟩ = some (.int .i64 x.k) := BV4.cell 0; have vc1 : w4.cell? ⟨w3.heap.size, 1, none⟩ = some (.int .i64 x.n) := BV4.cell 1; have vc2 : w4.cell? ⟨w3.heap.size, 2, none⟩ = some (.string x.s) := BV4.cell 2; have vc3 : w4.cell? ⟨w3.heap.size, 3, none⟩ = some (.slice A x.l.length c) := BV4.cell 3; clear hp4 hk4)
          refine (constant_any x.k x.n x.s A x.l.length c w4).mono ?_
          rintro e w5 ⟨rfl, hb5⟩
          have B5 := BR4.below hb5 BR4.lt
          have HX4 := Lib.hid (const_in (q := fun b => w3.heap.size ≤ b + w3.heap.size ∧ b ≠ g) (c := c) HXR.out (fun ad e => ⟨by omega, by have := HRD.out.2 ad e; omega⟩) hxl8 hxs8)
          have HX5 := Lib.hid (const_in (q := fun b => W.heap.size ≤ b) (c := c) HXR.out (fun ad e => by have := HRD.out.2 ad e; omega) hxl8 hxs8)
          have HX6 := Lib.hid (((HX5.out.kpq HK4.out (fun k hk => by omega)).keep (Stay.of hb5)).up hb5.size)
          have rc0 : w5.cell? ⟨w.heap.size, 0, none⟩ = some (.int .i64 0) := B5.cell 0
          have rz0 : w5.frozen? ⟨w.heap.size, 0, none⟩ = false := B5.frozen 0
          have rc1 : w5.cell? ⟨w.heap.size, 1, none⟩ = some (.int .i64 0) := B5.cell 1
          have rz1 : w5.frozen? ⟨w.heap.size, 1, none⟩ = false := B5.frozen 1
          have rc2 : w5.cell? ⟨w.heap.size, 2, none⟩ = some (.string ⟨#[]⟩) := B5.cell 2
          have rz2 : w5.frozen? ⟨w.heap.size, 2, none⟩ = false := B5.frozen 2
          have rc3 : w5.cell? ⟨w.heap.size, 3, none⟩ = some (.int .i64 0) := B5.cell 3
          have rz3 : w5.frozen? ⟨w.heap.size, 3, none⟩ = false := B5.frozen 3
          have rc4 : w5.cell? ⟨w.heap.size, 4, none⟩ = some (.int .i64 0) := B5.cell 4
          have rz4 : w5.frozen? ⟨w.heap.size, 4, none⟩ = false := B5.frozen 4
          have rc5 : w5.cell? ⟨w.heap.size, 5, none⟩ = some (.string ⟨#[]⟩) := B5.cell 5
          have rz5 : w5.frozen? ⟨w.heap.size, 5, none⟩ = false := B5.frozen 5
          have rc6 : w5.cell? ⟨w.heap.size, 6, none⟩ = some (.slice none 0 0) := B5.cell 6
          have rz6 : w5.frozen? ⟨w.heap.size, 6, none⟩ = false := B5.frozen 6
          have rc7 : w5.cell? ⟨w.heap.size, 7, none⟩ = some (.slice none 0 0) := B5.cell 7
          have rz7 : w5.frozen? ⟨w.heap.size, 7, none⟩ = false := B5.frozen 7
          go_wp2_with fail
          refine bodyPost_ret (v := .agg #[.int .i64 1, .int .i64 0, .string ⟨#[]⟩, .int .i64 x.k, .int .i64 x.n, .string x.s, .slice A x.l.length c, .slice none 0 0]) (by simp [results, Tryz.results151, go_sem, rc0, rc1, rc2, rc3, rc4, rc5, rc6, rc7]) rfl ?_
          have hend : R = .ok [constE x] (wordsOf s.data.toList (curAt s i2 + (curTx s i2).length)) := by rw [HPI.out, HTK.out.1]; rw [HTU.out]; dsimp only; rw [HRF.out]
          rw [hend]
          exact ret8 (L := W.heap.size) (x := constE x) (A' := none) (c' := 0) HX6.out hWs hlt (HP4.out.below hb5) ((HKW3.out.trans HK4.out).trans (Kp.of hb5))
        · have hbf : (f == 0) = false := by simp [hf]
          have HNO := Lib.hid (readF_none (HQ.out.2 hf).2.2)
          have HQF := Lib.hid (HQ.out.2 hf).1
          clear hf
          have hend : R = .err P0 := by rw [HPI.out, HTK.out.1]; rw [HTU.out]; dsimp only; rw [HNO.out, HTK.out.2.2]
          go_wp2_with fail
          refine ⟨rfl, ?_⟩
          rw [hend]
          exact ⟨rfl, HK3.out.alloc _⟩
    · have hnum : numNext L = false := by rw [hnum, decide_eq_false hl1]; rfl
      have HPI := Lib.hid (HPI.out.trans (if_neg (by rw [hnum]; decide)))
      have hl1i : ¬ ((P0 + 1 : Nat) : Int) < ((s.size : Nat) : Int) := by omega
      have hl1j : ¬ ((P0 : Nat) : Int) + 1 < ((s.size : Nat) : Int) := by omega
      clear hnum hp hm
      obtain ⟨r2, hr2⟩ : ∃ r, Pz s.data.toList.length .minus [] (wordsOf s.data.toList i2) = r := ⟨_, rfl⟩
      have HC2 := Lib.hid (fun W' (hp : PaAt W' g s i2) hm => hr2 ▸ HUN.out (wordsOf s.data.toList i2) (by have := HTL.out.2; rw [hL] at this; omega) g i2 W' hp hm rfl)
      have HR2 := Lib.hid hr2
      clear hr2
      go_enter Tryz.func151, Tryz.ntmps151
      go_upto_region 1 with (fail)
      obtain ⟨W, hW⟩ : ∃ W, W = w.alloc (.cells #[.int .i64 0, .int .i64 0, .string ⟨#[]⟩, .int .i64 0, .int .i64 0, .string ⟨#[]⟩, .slice none 0 0, .slice none 0 0] 27 (0, 0)) := ⟨_, rfl⟩
      have hkW : Kp g w W := by rw [hW]; exact (kp_refl g w).alloc _
      have HPW := Lib.hid (show PaAt W g s i by rw [hW]; exact HPA.out.alloc _)
      have HMW := Lib.hid (HM.out.kp hkW)
      have BR : Blk W w.heap.size 27 #[.int .i64 0, .int .i64 0, .string ⟨#[]⟩, .int .i64 0, .int .i64 0, .string ⟨#[]⟩, .slice none 0 0, .slice none 0 0] := by rw [hW]; exact Blk.new w _ _
      have hWs : w.heap.size < W.heap.size := BR.lt
      have hszW : W.heap.size = w.heap.size + 1 := by rw [hW]; simp
      have HBR := Lib.hid BR
      have HCW := Lib.hid (show Blk W g 65 #[.string s, .int .i64 (P0 : Nat), .string ⟨#[45]⟩, .bool t.touch] by rw [hW]; exact HCB.out.alloc _)
      rw [← hW]
      clear hW BR
      have c0 : W.cell? ⟨g, 0, none⟩ = some (.string s) := HPW.out.b.cell 0
      have c1 : W.cell? ⟨g, 1, none⟩ = some (.int .i64 (P0 : Nat)) := HCW.out.cell 1
      go_wp2_with (first | (go_at_call 84; (with_reducible refine (HI.out _ HPW.out).mono ?_); rintro e w3 ⟨rfl, rfl⟩) | (go_at_call 30; (with_reducible refine (HN.out _ HPW.out).mono ?_); rintro e w2 ⟨rfl, hp2, hk2⟩; have HP2 := Lib.hid hp2; have HW2 := Lib.hid hk2; have HK2 := Lib.hid (hkW.trans hk2); have HBR2 := Lib.hid (HBR.out.kp hk2 (by omega)); clear hp2 hk2))
      refine (HC2.out w2 HP2.out (HM.out.kp HK2.out)).mono ?_
      have hszW2 : W.heap.size ≤ w2.heap.size := HW2.out.size
      cases r2 with
      | err k2 =>
        rintro e w5 ⟨rfl, hk5⟩
        have hend : R = .err k2 := by rw [HPI.out, ← HHL.out, ← HTL.out.1]; rw [HR2.out]; rfl
        go_wp2_with fail
        refine ⟨rfl, ?_⟩
        rw [hend]
        exact ⟨rfl, HK2.out.trans hk5⟩
      | ok es2 l2 =>
        rintro e w5 ⟨y, i4, cs5, rfl, rfl, rfl, hx5, hp5, hk5⟩
        have HX5 := Lib.hid hx5
        obtain ⟨hn5, hs5, hl5, ha5, hxx5, hrr5, hii5⟩ := hx5
        rename_i A1 c1 A2 c2 csi5
        clear hxx5 hrr5 hii5 hn5 hs5 hl5 ha5
        have exa5 : (exCells y A1 c1 A2 c2).toArray = #[.int .i64 y.k, .int .i64 y.op, .string y.nm, .int .i64 y.v.k, .int .i64 y.v.n, .string y.v.s, .slice A1 y.v.l.length c1, .slice A2 y.ar.length c2] := rfl
        rw [exa5]
        clear exa5
        have hend : R = .ok [mkOp 20 [y]] (wordsOf s.data.toList i4) := by rw [HPI.out, ← HHL.out, ← HTL.out.1]; rw [HR2.out]; rfl
        have HB5 := Lib.hid (HBR2.out.kp hk5 (by omega))
        have hs5 := hk5.size
        go_wp2_with fail
        refine (operation_any 20 _ 1 1 _).mono ?_
        rintro e w6 ⟨rfl, hb6⟩
        have B6 := (HB5.out.alloc (.cells #[.int .i64 y.k, .int .i64 y.op, .string y.nm, .int .i64 y.v.k, .int .i64 y.v.n, .string y.v.s, .slice A1 y.v.l.length c1, .slice A2 y.ar.length c2] 27 (0, 0))).below hb6 (HB5.out.alloc _).lt
        have rc0 : w6.cell? ⟨w.heap.size, 0, none⟩ = some (.int .i64 0) := B6.cell 0
        have rz0 : w6.frozen? ⟨w.heap.size, 0, none⟩ = false := B6.frozen 0
        have rc1 : w6.cell? ⟨w.heap.size, 1, none⟩ = some (.int .i64 0) := B6.cell 1
        have rz1 : w6.frozen? ⟨w.heap.size, 1, none⟩ = false := B6.frozen 1
        have rc2 : w6.cell? ⟨w.heap.size, 2, none⟩ = some (.string ⟨#[]⟩) := B6.cell 2
        have rz2 : w6.frozen? ⟨w.heap.size, 2, none⟩ = false := B6.frozen 2
        have rc3 : w6.cell? ⟨w.heap.size, 3, none⟩ = some (.int .i64 0) := B6.cell 3
        have rz3 : w6.frozen? ⟨w.heap.size, 3, none⟩ = false := B6.frozen 3
        have rc4 : w6.cell? ⟨w.heap.size, 4, none⟩ = some (.int .i64 0) := B6.cell 4
        have rz4 : w6.frozen? ⟨w.heap.size, 4, none⟩ = false := B6.frozen 4
        have rc5 : w6.cell? ⟨w.heap.size, 5, none⟩ = some (.string ⟨#[]⟩) := B6.cell 5
        have rz5 : w6.frozen? ⟨w.heap.size, 5, none⟩ = false := B6.frozen 5
        have rc6 : w6.cell? ⟨w.heap.size, 6, none⟩ = some (.slice none 0 0) := B6.cell 6
        have rz6 : w6.frozen? ⟨w.heap.size, 6, none⟩ = false := B6.frozen 6
        have rc7 : w6.cell? ⟨w.heap.size, 7, none⟩ = some (.slice none 0 0) := B6.cell 7
        have rz7 : w6.frozen? ⟨w.heap.size, 7, none⟩ = false := B6.frozen 7
        go_wp2_with fail
        refine bodyPost_ret (v := .agg #[.int .i64 4, .int .i64 20, .string ⟨#[]⟩, .int .i64 0, .int .i64 0, .string ⟨#[]⟩, .slice none 0 0, .slice (some ⟨w5.heap.size, 0, none⟩) 1 1]) (by simp [results, Tryz.results151, go_sem, rc0, rc1, rc2, rc3, rc4, rc5, rc6, rc7]) rfl ?_
        rw [hend]
        exact ret8 (L := W.heap.size) (one_in 20 (HX5.out.imp (fun k hk _ => by omega)) hb6 (fun k hk => by omega)) hWs hlt ((hp5.alloc _).below hb6) (((HK2.out.trans hk5).alloc _).trans (Kp.of hb6))
end Go.Proofs.YtobanldeicclmaaGreatDoor
namespace Go.Proofs.YtobanldeicclmaaGreatDoor
open Go.RowKit Vtx
attribute [local go_sem ↓] Go.wp_at_zero Go.wp_at_succ
/-- what call does -/
def CRet (w : World) (g : Nat) (s : ByteArray) (r : Res) (e : Ending) (w' : World) : Prop := match r with
  | .ok es l' => ∃ x i cs, es = [x] ∧ l' = wordsOf s.data.toList i ∧ e = .returned (.tuple #[.agg cs.toArray, .bool true]) ∧ ExIn w' (fun b => w.heap.size ≤ b) w'.heap.size x cs ∧ PaAt w' g s i ∧ Kp g w w'
  | .err k => e = stopE k ∧ Kp g w w'
noncomputable def callF (n : Nat) (x : List UInt8) (r : List Tok) : Res :=
  if overOf x ≠ 0 then (match nameAt r with
    | none => .err (placeF n r)
    | some nm => takeF n [58] r.tail fun l1 => (Pz n .or [] l1).bind fun es l2 => takeF n [41] l2 fun l3 => .ok [nameE 5 (overOf x) nm es] l3) else
  if opOf x ≠ 0 then (Pz n (.args (opOf x)) [] r).bind fun es l1 => takeF n [41] l1 fun l2 => .ok [mkOp (opOf x) es] l2 else
  (match nameAt r with
    | none => .err (placeF n r)
    | some nm => takeF n [41] r.tail fun l1 => .ok [nameE 3 0 nm []] l1)
theorem cret8 {w w5 : World} {g i : Nat} {s : ByteArray} {x : Ex} {A A' : Option Addr} {c c' : Nat} {L : Nat} (hx : ExIn w5 (fun b => L < b) w5.heap.size x (exCells x A c A' c')) (hW : w.heap.size < L) (hg : g < w.heap.size) (hp : PaAt w5 g s i) (hk : Kp g w w5) :
    CRet w g s (.ok [x] (wordsOf s.data.toList i)) (.returned (.tuple #[.agg #[.int .i64 x.k, .int .i64 x.op, .string x.nm, .int .i64 x.v.k, .int .i64 x.v.n, .string x.v.s, .slice A x.v.l.length c, .slice A' x.ar.length c'], .bool true])) (set8 w5 w.heap.size (.int .i64 x.k) (.int .i64 x.op) (.string x.nm) (.int .i64 x.v.k) (.int .i64 x.v.n) (.string x.v.s) (.slice A x.v.l.length c) (.slice A' x.ar.length c')) := by
  have hst : Stay (fun b => L < b) w5 (set8 w5 w.heap.size (.int .i64 x.k) (.int .i64 x.op) (.string x.nm) (.int .i64 x.v.k) (.int .i64 x.v.n) (.string x.v.s) (.slice A x.v.l.length c) (.slice A' x.ar.length c')) :=
    ⟨by rw [set8_size]; exact Nat.le_refl _, fun k hk hl => by rw [set8_far _ _ _ _ _ _ _ _ _ _ k (by omega)]⟩
  exact ⟨x, i, exCells x A c A' c', rfl, rfl, rfl, ((hx.keep hst).up hst.1).imp (fun k hk _ => by omega), hp.kp (set8_far _ _ _ _ _ _ _ _ _ _ g (by omega)), set8_kp hk (Nat.le_refl _) _ _ _ _ _ _ _ _⟩
theorem nameE_inP {w : World} {p : Nat → Prop} {B : Nat} {es : List Ex} {css : List (List Value)} {A : Option Addr} {c : Nat} (k o : Int) (nm : List UInt8) (hnm : nm.length ≤ maxLen) (h : ExsIn w p es css) (hL : ∀ k, B ≤ k → p k) (ho : w.ownsRow B 27 8 (.slice A es.length c) es.length css.flatten) (hm : es.length ≤ maxLen) :
    ExIn w p w.heap.size (nameE k o nm es) (exCells (nameE k o nm es) none 0 A c) := by
  have hA : ∀ ad, A = some ad → p ad.block := fun ad e => by
    subst e
    rcases ho.2 with ⟨h0, -⟩ | ⟨g', cap, cur, e0, e1, -⟩
    · cases h0
    · injection e0 with e0 _ _
      injection e0 with e0
      subst e0
      exact hL _ e1
  refine ExIn.mk (e := nameE k o nm es) (A := none) (c := 0) (A' := A) (c' := c) (cs := css.flatten) (show (⟨nm.toArray⟩ : ByteArray).size ≤ maxLen by simpa [ByteArray.size] using hnm) (show 0 ≤ maxLen from Nat.zero_le _) (show 0 ≤ maxLen from Nat.zero_le _) hm ⟨Reads.none_, fun _ ad e => by cases e⟩ ⟨Reads.of_own ho, fun _ => hA⟩ (fun i hi => ?_)
  have hi' : i < css.length := by rw [← h.len]; exact hi
  rw [flat8 css h.cells i hi']
  exact h.ex i hi hi'
theorem name_len {s : ByteArray} {i : Nat} {x : List UInt8} (h : nameAt (wordsOf s.data.toList i) = some x) (hs : s.size ≤ 4000) : x.length ≤ 4000 := by
  rw [words_eq] at h
  cases ht : tokAt s.data.toList i with
  | none => rw [ht] at h; cases h
  | some t =>
    rw [ht] at h
    have h1 : (if !t.touch && nameB t.tx then some t.tx else none) = some x := h
    split at h1
    · injection h1 with h1
      subst h1
      have := tok_in ht
      rw [data_len] at this
      omega
    · cases h1
theorem kp_setCell {g : Nat} {w w' : World} (h : Kp g w w') {b : Nat} (hb : w.heap.size ≤ b) (i : Nat) (v : Value) : Kp g w (w'.setCell ⟨b, i, none⟩ v) :=
  ⟨h.os, h.tape, h.output, by simp [World.setCell]; exact h.size, fun k hk hg => (Below.heap_setCell w' ⟨b, i, none⟩ v k (fun e => by simp at e; omega)).trans (h.block k hk hg)⟩
theorem row_zero : overOf rowW = 0 ∧ opOf rowW = 0 := by decide
set_option maxHeartbeats 4000000 in
set_option maxRecDepth 100000 in
theorem call_over (g : Nat) (s : ByteArray) (i : Nat) (w : World) (hp : PaAt w g s i) (hm : TM w g) (t u : Tok) (r : List Tok) (hL : wordsOf s.data.toList i = t :: u :: r) (hu : u.tx = [40]) (ho : overOf t.tx ≠ 0) (hP : ∀ L', L'.length ≤ r.length → PSpec 31 .or s L') :
    Calls Tryz.prog 170 #[.pointer (some ⟨g, 0, none⟩), .string (tb t.tx)] w fun e w' => CRet w g s (callF s.data.toList.length t.tx r) e w' := by
  have HPA := Lib.hid hp
  have HM := Lib.hid hm
  have hlt := hp.b.lt
  have hs4 := hp.s
  have hw1 := word_tok hL
  have hw2 := word_tok hw1.2.symm
  obtain ⟨i1, hi1⟩ : ∃ i1, t.at_ + t.tx.length = i1 := ⟨_, rfl⟩
  obtain ⟨ea, et, eh⟩ := cur_of hw1.1
  have HI1 := Lib.hid (show curAt s i + (curTx s i).length = i1 by rw [ea, et, hi1])
  rw [hi1] at hw1 hw2
  have hfree := tok_free hw2.1 hu (by decide)
  have HWU := Lib.hid (show isW (wordsOf s.data.toList i1) [40] = true by rw [← hw1.2]; simp [isW, hfree, hu])
  obtain ⟨i2, hi2⟩ : ∃ i2, curAt s i1 + (curTx s i1).length = i2 := ⟨_, rfl⟩
  have HI2 := Lib.hid hi2
  have HWR := Lib.hid (show wordsOf s.data.toList i2 = r by
    obtain ⟨ea2, et2, -⟩ := cur_of hw2.1
    rw [← hi2, ea2, et2]; exact hw2.2.symm)
  obtain ⟨x, hx⟩ : ∃ x, t.tx = x := ⟨_, rfl⟩
  obtain ⟨R, hR⟩ : ∃ R, callF s.data.toList.length t.tx r = R := ⟨_, rfl⟩
  rw [hR]
  rw [hx] at hR ⊢
  obtain ⟨v, hv⟩ : ∃ v, tb x = v := ⟨_, rfl⟩
  have HV := Lib.hid hv
  have HOVA := Lib.hid (fun w' => hv ▸ overOf_any x w')
  have HOPA := Lib.hid (fun w' => hv ▸ opOf_any x w')
  have HRR := Lib.hid hR
  have HPP := Lib.hid hP
  rw [hv]
  rw [hx] at ho
  clear hR hi1 hi2 ea et eh hw1 hw2 hfree hL hu hp hm hP
  obtain ⟨ov, hov⟩ : ∃ ov, overOf x = ov := ⟨_, rfl⟩
  obtain ⟨op, hop⟩ : ∃ op, opOf x = op := ⟨_, rfl⟩
  have hovp := over_pos x
  rw [hov] at ho hovp
  have bs0 : (v.toList == (⟨#[114, 111, 119]⟩ : ByteArray).toList) = false := strEq_false (fun e => by
    have e2 : x = rowW := by rw [← tb_data x, hv, e]; rfl
    subst e2
    exact ho (hov ▸ row_zero.1))
  have bs : (v.toList == [114, 111, 119]) = false := by simpa using bs0
  clear bs0
  have bo : (ov == 0) = false := by simp [ho]
  have hgt : (0 : Int) < ov := by omega
  have HRR := Lib.hid (show R = (match nameAt r with
    | none => .err (placeF s.data.toList.length r)
    | some nm => takeF s.data.toList.length [58] r.tail fun l1 => (Pz s.data.toList.length .or [] l1).bind fun es l2 => takeF s.data.toList.length [41] l2 fun l3 => .ok [nameE 5 ov nm es] l3) by rw [← HRR.out]; unfold callF; rw [hov, if_pos ho])
  have HOVE := Lib.hid hov
  have HOPE := Lib.hid hop
  clear ho hovp hv hx hov hop
  go_enter Tryz.func170, Tryz.ntmps170
  go_upto_region 1 with (fail)
  obtain ⟨W, hW⟩ : ∃ W, W = w.alloc (.cells #[.int .i64 0, .int .i64 0, .string ⟨#[]⟩, .int .i64 0, .int .i64 0, .string ⟨#[]⟩, .slice none 0 0, .slice none 0 0] 27 (0, 0)) := ⟨_, rfl⟩
  have hkW : Kp g w W := by rw [hW]; exact (kp_refl g w).alloc _
  have HPW := Lib.hid (show PaAt W g s i by rw [hW]; exact HPA.out.alloc _)
  have HMW := Lib.hid (HM.out.kp hkW)
  have BR : Blk W w.heap.size 27 #[.int .i64 0, .int .i64 0, .string ⟨#[]⟩, .int .i64 0, .int .i64 0, .string ⟨#[]⟩, .slice none 0 0, .slice none 0 0] := by rw [hW]; exact Blk.new w _ _
  have hWs : w.heap.size < W.heap.size := BR.lt
  have hszW : W.heap.size = w.heap.size + 1 := by rw [hW]; simp
  have HBR := Lib.hid BR
  rw [← hW]
  clear hW BR
  go_wp2_with fail
  refine (HOVA.out W).mono ?_
  rintro e wa ⟨rfl, hba⟩
  rw [HOVE.out]
  go_wp2_with fail
  refine (HOPA.out wa).mono ?_
  rintro e wb ⟨rfl, hbb⟩
  rw [HOPE.out]
  have hbw : Below W.heap.size W wb := hba.trans (hbb.mono hba.size)
  have HPb := Lib.hid (HPW.out.below hbw)
  have HKb := Lib.hid (hkW.trans (Kp.of hbw))
  have HBRb := Lib.hid (HBR.out.below hbw HBR.out.lt)
  have hszb := hbw.size
  clear hba hbb hbw
  have HNX := Lib.hid (next_any g s i wb HPb.out)
  rw [HI1.out] at HNX
  go_wp2_with (go_at_call 30; (with_reducible refine HNX.out.mono ?_); rintro e w2 ⟨rfl, hp2, hk2⟩; have HP2 := Lib.hid hp2; have HW2 := Lib.hid hk2)
  have HTK0 := take_any g s i1 w2 HP2.out [40] (by decide)
  rw [HI2.out, show tb [40] = ⟨#[40]⟩ from rfl] at HTK0
  refine HTK0.mono ?_
  intro e w3 htk
  rw [HWU.out, if_pos rfl] at htk
  obtain ⟨rfl, hp3, hk3⟩ := htk
  have HP3 := Lib.hid hp3
  have HK3 := Lib.hid ((HKb.out.trans hk2).trans hk3)
  have HBR3 := Lib.hid ((HBRb.out.kp hk2 (by omega)).kp hk3 (by omega))
  have hsz3 : W.heap.size ≤ w3.heap.size := by have h1 := hk2.size; have h2 := hk3.size; omega
  clear HTK0 hp2 hk2 hp3 hk3
  go_upto_region 8 with (fail)
  obtain ⟨W3, hW3⟩ : ∃ W3, W3 = w3.alloc (.cells #[.int .i64 3, .int .i64 0, .string ⟨#[]⟩, .int .i64 0, .int .i64 0, .string ⟨#[]⟩, .slice none 0 0, .slice none 0 0] 27 (0, 0)) := ⟨_, rfl⟩
  have HPW3 := Lib.hid (show PaAt W3 g s i2 by rw [hW3]; exact HP3.out.alloc _)
  have HKW3 := Lib.hid (show Kp g w W3 by rw [hW3]; exact HK3.out.alloc _)
  have HBRW3 := Lib.hid (show Blk W3 w.heap.size 27 #[.int .i64 0, .int .i64 0, .string ⟨#[]⟩, .int .i64 0, .int .i64 0, .string ⟨#[]⟩, .slice none 0 0, .slice none 0 0] by rw [hW3]; exact HBR3.out.alloc _)
  have HBE3 := Lib.hid (show Blk W3 w3.heap.size 27 #[.int .i64 3, .int .i64 0, .string ⟨#[]⟩, .int .i64 0, .int .i64 0, .string ⟨#[]⟩, .slice none 0 0, .slice none 0 0] by rw [hW3]; exact Blk.new w3 _ _)
  have hszW3 : W3.heap.size = w3.heap.size + 1 := by rw [hW3]; simp
  rw [← hW3]
  clear hW3
  go_wp2_with fail
  refine (loop_any g s i2 W3 HPW3.out).mono ?_
  intro e w4 hl
  unfold LRet at hl
  rw [HWR.out] at hl
  obtain ⟨N, hN⟩ : ∃ N, nameAt r = N := ⟨_, rfl⟩
  rw [hN] at hl
  have HN := Lib.hid hN
  cases N with
  | none =>
    obtain ⟨rfl, rfl⟩ := hl
    have hend : R = .err (placeF s.data.toList.length r) := by rw [HRR.out, HN.out]
    go_wp2_with fail
    refine ⟨rfl, ?_⟩
    rw [hend]
    exact ⟨rfl, HKW3.out⟩
  | some nm =>
    obtain ⟨i3, rfl, hwi3, hp4, hk4⟩ := hl
    have hnl := name_len (s := s) (i := i2) (by rw [HWR.out]; exact hN) hs4
    have HNL := Lib.hid (show nm.length ≤ maxLen by unfold maxLen; omega)
    obtain ⟨v4, hv4⟩ : ∃ v4, tb nm = v4 := ⟨_, rfl⟩
    have HV4 := Lib.hid hv4
    have HWI3 := Lib.hid hwi3
    have HK4 := Lib.hid (HKW3.out.trans hk4)
    have B4 := HBE3.out.kp hk4 (by have := HP3.out.b.lt; omega)
    have HB4 := Lib.hid B4
    have HP4 := Lib.hid hp4
    have HBR4 := Lib.hid (HBRW3.out.kp hk4 (by omega))
    have hsz4 : W3.heap.size ≤ w4.heap.size := hk4.size
    have hge : g < w3.heap.size := HP3.out.b.lt
    rw [hv4]
    clear hN hv4 hwi3 hp4 hk4 hnl
    have fc0 : w4.cell? ⟨w3.heap.size, 0, none⟩ = some (.int .i64 3) := B4.cell 0
    have fz0 : w4.frozen? ⟨w3.heap.size, 0, none⟩ = false := B4.frozen 0
    have fc1 : w4.cell? ⟨w3.heap.size, 1, none⟩ = some (.int .i64 0) := B4.cell 1
    have fz1 : w4.frozen? ⟨w3.heap.size, 1, none⟩ = false := B4.frozen 1
    have fc2 : w4.cell? ⟨w3.heap.size, 2, none⟩ = some (.string ⟨#[]⟩) := B4.cell 2
    have fz2 : w4.frozen? ⟨w3.heap.size, 2, none⟩ = false := B4.frozen 2
    have fc3 : w4.cell? ⟨w3.heap.size, 3, none⟩ = some (.int .i64 0) := B4.cell 3
    have fz3 : w4.frozen? ⟨w3.heap.size, 3, none⟩ = false := B4.frozen 3
    have fc4 : w4.cell? ⟨w3.heap.size, 4, none⟩ = some (.int .i64 0) := B4.cell 4
    have fz4 : w4.frozen? ⟨w3.heap.size, 4, none⟩ = false := B4.frozen 4
    have fc5 : w4.cell? ⟨w3.heap.size, 5, none⟩ = some (.string ⟨#[]⟩) := B4.cell 5
    have fz5 : w4.frozen? ⟨w3.heap.size, 5, none⟩ = false := B4.frozen 5
    have fc6 : w4.cell? ⟨w3.heap.size, 6, none⟩ = some (.slice none 0 0) := B4.cell 6
    have fz6 : w4.frozen? ⟨w3.heap.size, 6, none⟩ = false := B4.frozen 6
    have fc7 : w4.cell? ⟨w3.heap.size, 7, none⟩ = some (.slice none 0 0) := B4.cell 7
    have fz7 : w4.frozen? ⟨w3.heap.size, 7, none⟩ = false := B4.frozen 7
    go_wp2_with fail
    obtain ⟨W4, hW4⟩ : ∃ W4, W4 = set8 w4 w3.heap.size (.int .i64 5) (.int .i64 ov) (.string v4) (.int .i64 0) (.int .i64 0) (.string ⟨#[]⟩) (.slice none 0 0) (.slice none 0 0) := ⟨_, rfl⟩
    have HB4' := Lib.hid (show Blk W4 w3.heap.size 27 #[.int .i64 5, .int .i64 ov, .string v4, .int .i64 0, .int .i64 0, .string ⟨#[]⟩, .slice none 0 0, .slice none 0 0] by rw [hW4]; exact set8_blk HB4.out _ _ _ _ _ _ _ _)
    have HPW4 := Lib.hid (show PaAt W4 g s i3 by rw [hW4]; exact HP4.out.kp (set8_far _ _ _ _ _ _ _ _ _ _ g (by omega)))
    have HKW4 := Lib.hid (show Kp g w W4 by rw [hW4]; exact set8_kp HK4.out (by omega) _ _ _ _ _ _ _ _)
    have HBRW4 := Lib.hid (show Blk W4 w.heap.size 27 #[.int .i64 0, .int .i64 0, .string ⟨#[]⟩, .int .i64 0, .int .i64 0, .string ⟨#[]⟩, .slice none 0 0, .slice none 0 0] by
      rw [hW4]
      unfold Blk
      rw [set8_far _ _ _ _ _ _ _ _ _ _ _ (by omega)]
      exact HBR4.out)
    have hszW4 : W4.heap.size = w4.heap.size := by rw [hW4, set8_size]
    dsimp only [set8] at hW4
    rw [← hW4]
    clear hW4 B4
    have HTK := take_any g s i3 W4 HPW4.out [58] (by decide)
    obtain ⟨i4, hi4⟩ : ∃ i4, curAt s i3 + (curTx s i3).length = i4 := ⟨_, rfl⟩
    have htl4 := fun h => words_tail (s := s) (i := i3) (word := [58]) h
    rw [show tb [58] = ⟨#[58]⟩ from rfl, hi4] at HTK
    rw [hi4] at htl4
    refine HTK.mono ?_
    intro e w5 htk
    obtain ⟨b4, hb4⟩ : ∃ b, isW (wordsOf s.data.toList i3) [58] = b := ⟨_, rfl⟩
    rw [hb4] at htk
    cases b4
    · rw [if_neg (by decide)] at htk
      obtain ⟨rfl, rfl⟩ := htk
      have hend : R = .err (curAt s i3) := by rw [HRR.out, HN.out]; dsimp only; unfold takeF; rw [← HWI3.out, if_neg (by rw [hb4]; decide), place_cur]
      go_wp2_with fail
      refine ⟨rfl, ?_⟩
      rw [hend]
      exact ⟨rfl, HKW4.out⟩
    · rw [if_pos rfl] at htk
      obtain ⟨rfl, hp5, hk5⟩ := htk
      have HTL4 := Lib.hid (htl4 hb4)
      have HRR5 := Lib.hid (show R = (Pz s.data.toList.length .or [] (wordsOf s.data.toList i4)).bind fun es l2 => takeF s.data.toList.length [41] l2 fun l3 => .ok [nameE 5 ov nm es] l3 by
        rw [HRR.out, HN.out]; dsimp only; rw [takeF, ← HWI3.out, if_pos hb4, ← HTL4.out.1])
      have HP5 := Lib.hid hp5
      have HK5 := Lib.hid (HKW4.out.trans hk5)
      have HB5 := Lib.hid (HB4'.out.kp hk5 (by omega))
      have HBR5 := Lib.hid (HBRW4.out.kp hk5 (by omega))
      have hsz5 : W4.heap.size ≤ w5.heap.size := hk5.size
      clear HTK htl4 hi4 hb4 hp5 hk5
      go_wp2_with fail
      obtain ⟨r2, hr2⟩ : ∃ r2, Pz s.data.toList.length .or [] (wordsOf s.data.toList i4) = r2 := ⟨_, rfl⟩
      have HC2 := HPP.out (wordsOf s.data.toList i4) (by
        have h1 := HTL4.out.2
        have h2 := HWI3.out
        rw [h2, List.length_tail] at h1
        omega) g i4 w5 HP5.out (HM.out.kp HK5.out) rfl
      rw [hr2] at HC2 HRR5
      refine HC2.mono ?_
      cases r2 with
      | err k =>
        rintro e w6 ⟨rfl, hk6⟩
        have hend : R = .err k := HRR5.out
        go_wp2_with fail
        refine ⟨rfl, ?_⟩
        rw [hend]
        exact ⟨rfl, HK5.out.trans hk6⟩
      | ok es l2 =>
        rintro e w6 ⟨y, i5, cs6, rfl, rfl, rfl, hx6, hp6, hk6⟩
        have HX6 := Lib.hid hx6
        obtain ⟨hn6, hs6, hl6, ha6, hxx6, hrr6, hii6⟩ := hx6
        rename_i A1 c1 A2 c2 csi6
        clear hxx6 hrr6 hii6 hn6 hs6 hl6 ha6
        have exa6 : (exCells y A1 c1 A2 c2).toArray = #[.int .i64 y.k, .int .i64 y.op, .string y.nm, .int .i64 y.v.k, .int .i64 y.v.n, .string y.v.s, .slice A1 y.v.l.length c1, .slice A2 y.ar.length c2] := rfl
        rw [exa6]
        clear exa6
        have HB6 := Lib.hid (HB5.out.kp hk6 (by omega))
        have HBR6 := Lib.hid (HBR5.out.kp hk6 (by omega))
        have HP6 := Lib.hid hp6
        have HK6 := Lib.hid (HK5.out.trans hk6)
        have hsz6 : w5.heap.size ≤ w6.heap.size := hk6.size
        have B6 := HB6.out.alloc (.cells #[.int .i64 y.k, .int .i64 y.op, .string y.nm, .int .i64 y.v.k, .int .i64 y.v.n, .string y.v.s, .slice A1 y.v.l.length c1, .slice A2 y.ar.length c2] 27 (0, 0))
        have f7 : (w6.alloc (.cells #[.int .i64 y.k, .int .i64 y.op, .string y.nm, .int .i64 y.v.k, .int .i64 y.v.n, .string y.v.s, .slice A1 y.v.l.length c1, .slice A2 y.ar.length c2] 27 (0, 0))).cell? ⟨w3.heap.size, 7, none⟩ = some (.slice none 0 0) := B6.cell 7
        have fz7 : (w6.alloc (.cells #[.int .i64 y.k, .int .i64 y.op, .string y.nm, .int .i64 y.v.k, .int .i64 y.v.n, .string y.v.s, .slice A1 y.v.l.length c1, .slice A2 y.ar.length c2] 27 (0, 0))).frozen? ⟨w3.heap.size, 7, none⟩ = false := B6.frozen 7
        have f7' : w6.cell? ⟨w3.heap.size, 7, none⟩ = some (.slice none 0 0) := HB6.out.cell 7
        have fz7' : w6.frozen? ⟨w3.heap.size, 7, none⟩ = false := HB6.out.frozen 7
        clear hp6 hk6
        go_wp2_with fail
        obtain ⟨W6, hW6⟩ : ∃ W6, W6 = w6.alloc (.cells #[.int .i64 y.k, .int .i64 y.op, .string y.nm, .int .i64 y.v.k, .int .i64 y.v.n, .string y.v.s, .slice A1 y.v.l.length c1, .slice A2 y.ar.length c2] 27 (0, 0)) := ⟨_, rfl⟩
        rw [← hW6] at B6 ⊢
        have hszW6 : W6.heap.size = w6.heap.size + 1 := by rw [hW6]; simp
        have HPW6 := Lib.hid (show PaAt W6 g s i5 by rw [hW6]; exact HP6.out.alloc _)
        have HKW6 := Lib.hid (show Kp g w W6 by rw [hW6]; exact HK6.out.alloc _)
        have HBRW6 := Lib.hid (show Blk W6 w.heap.size 27 #[.int .i64 0, .int .i64 0, .string ⟨#[]⟩, .int .i64 0, .int .i64 0, .string ⟨#[]⟩, .slice none 0 0, .slice none 0 0] by rw [hW6]; exact HBR6.out.alloc _)
        have HXW6 := Lib.hid (show ExIn W6 (fun b => w3.heap.size < b) W6.heap.size y (exCells y A1 c1 A2 c2) by
          rw [hW6]
          exact ((HX6.out.imp (q := fun b => w3.heap.size < b) (fun k hk _ => by omega)).keep (Stay.of ((Below.refl _ _).alloc (Nat.le_refl _) _))).up (by simp))
        have HN6 := Lib.hid (show ExIn W6 (fun b => w3.heap.size < b) W6.heap.size (nameE 5 ov nm [y]) (exCells (nameE 5 ov nm [y]) none 0 (some ⟨w6.heap.size, 0, none⟩) 1) from
          nameE_inP (B := w6.heap.size) 5 ov nm HNL.out (ExsIn.one HXW6.out) (fun k hk => by omega) (by
            have h1 : W6.ownsRow w6.heap.size 27 8 (.slice (some ⟨w6.heap.size, 0, none⟩) 1 1) 1 (exCells y A1 c1 A2 c2) := by rw [hW6]; exact own_new (Blk.new w6 _ _) (Nat.le_refl _) rfl
            simpa using h1) (show 1 ≤ maxLen by decide))
        clear f7 fz7 f7' fz7' hW6
        obtain ⟨WT, hWT⟩ : ∃ WT, WT = W6.setCell ⟨w3.heap.size, 7, none⟩ (.slice (some ⟨w6.heap.size, 0, none⟩) 1 1) := ⟨_, rfl⟩
        have hfar : ∀ k, k ≠ w3.heap.size → WT.heap[k]? = W6.heap[k]? := fun k hk => by rw [hWT]; exact Below.heap_setCell W6 ⟨w3.heap.size, 7, none⟩ _ k hk
        have hszT : WT.heap.size = W6.heap.size := by rw [hWT]; simp [World.setCell]
        have HPT := Lib.hid (HPW6.out.kp (hfar g (by omega)))
        have HKT := Lib.hid (show Kp g w WT by rw [hWT]; exact kp_setCell HKW6.out (by omega) _ _)
        have HBET := Lib.hid (show Blk WT w3.heap.size 27 #[.int .i64 5, .int .i64 ov, .string v4, .int .i64 0, .int .i64 0, .string ⟨#[]⟩, .slice none 0 0, .slice (some ⟨w6.heap.size, 0, none⟩) 1 1] by
          rw [hWT]
          have h1 := B6.set_ 7 (.slice (some ⟨w6.heap.size, 0, none⟩) 1 1)
          simpa using h1)
        have HBRT := Lib.hid (show Blk WT w.heap.size 27 #[.int .i64 0, .int .i64 0, .string ⟨#[]⟩, .int .i64 0, .int .i64 0, .string ⟨#[]⟩, .slice none 0 0, .slice none 0 0] by unfold Blk; rw [hfar _ (by omega)]; exact HBRW6.out)
        have HXT := Lib.hid (show ExIn WT (fun b => w3.heap.size < b) WT.heap.size (nameE 5 ov nm [y]) (exCells (nameE 5 ov nm [y]) none 0 (some ⟨w6.heap.size, 0, none⟩) 1) from
          (HN6.out.keep ⟨by omega, fun k hk _ => hfar k (by omega)⟩).up (by omega))
        have HRT := Lib.hid (show R = takeF s.data.toList.length [41] (wordsOf s.data.toList i5) fun l => .ok [nameE 5 ov nm [y]] l from HRR5.out)
        rw [← hWT]
        clear hWT
        have HTKT := take_any g s i5 WT HPT.out [41] (by decide)
        obtain ⟨i6, hi6⟩ : ∃ i6, curAt s i5 + (curTx s i5).length = i6 := ⟨_, rfl⟩
        have htl := fun h => words_tail (s := s) (i := i5) (word := [41]) h
        rw [show tb [41] = ⟨#[41]⟩ from rfl, hi6] at HTKT
        rw [hi6] at htl
        refine HTKT.mono ?_
        intro e w8 htk
        obtain ⟨b5, hb5⟩ : ∃ b, isW (wordsOf s.data.toList i5) [41] = b := ⟨_, rfl⟩
        rw [hb5] at htk
        cases b5
        · rw [if_neg (by decide)] at htk
          obtain ⟨rfl, rfl⟩ := htk
          have hend : R = .err (curAt s i5) := by rw [HRT.out]; unfold takeF; rw [if_neg (by rw [hb5]; decide), place_cur]
          have HEND := Lib.hid hend
          clear hend HTKT htl hi6
          go_wp2_with fail
          refine ⟨rfl, ?_⟩
          rw [HEND.out]
          exact ⟨rfl, HKT.out⟩
        · rw [if_pos rfl] at htk
          obtain ⟨rfl, hp8, hk8⟩ := htk
          have hend : R = .ok [nameE 5 ov nm [y]] (wordsOf s.data.toList i6) := by rw [HRT.out]; unfold takeF; rw [if_pos hb5, ← (htl hb5).1]
          have HEND := Lib.hid hend
          have HX8 := Lib.hid (HXT.out.kpq hk8 (fun k hk => by omega))
          have HP8 := Lib.hid hp8
          have HK8 := Lib.hid (HKT.out.trans hk8)
          have B8 := HBET.out.kp hk8 (by omega)
          have BR8 := HBRT.out.kp hk8 (by omega)
          clear hend HTKT htl hi6 hb5 hp8 hk8
          have ec0 : w8.cell? ⟨w3.heap.size, 0, none⟩ = some (.int .i64 5) := B8.cell 0
          have ec1 : w8.cell? ⟨w3.heap.size, 1, none⟩ = some (.int .i64 ov) := B8.cell 1
          have ec2 : w8.cell? ⟨w3.heap.size, 2, none⟩ = some (.string v4) := B8.cell 2
          have ec3 : w8.cell? ⟨w3.heap.size, 3, none⟩ = some (.int .i64 0) := B8.cell 3
          have ec4 : w8.cell? ⟨w3.heap.size, 4, none⟩ = some (.int .i64 0) := B8.cell 4
          have ec5 : w8.cell? ⟨w3.heap.size, 5, none⟩ = some (.string ⟨#[]⟩) := B8.cell 5
          have ec6 : w8.cell? ⟨w3.heap.size, 6, none⟩ = some (.slice none 0 0) := B8.cell 6
          have ec7 : w8.cell? ⟨w3.heap.size, 7, none⟩ = some (.slice (some ⟨w6.heap.size, 0, none⟩) 1 1) := B8.cell 7
          have rc0 : w8.cell? ⟨w.heap.size, 0, none⟩ = some (.int .i64 0) := BR8.cell 0
          have rz0 : w8.frozen? ⟨w.heap.size, 0, none⟩ = false := BR8.frozen 0
          have rc1 : w8.cell? ⟨w.heap.size, 1, none⟩ = some (.int .i64 0) := BR8.cell 1
          have rz1 : w8.frozen? ⟨w.heap.size, 1, none⟩ = false := BR8.frozen 1
          have rc2 : w8.cell? ⟨w.heap.size, 2, none⟩ = some (.string ⟨#[]⟩) := BR8.cell 2
          have rz2 : w8.frozen? ⟨w.heap.size, 2, none⟩ = false := BR8.frozen 2
          have rc3 : w8.cell? ⟨w.heap.size, 3, none⟩ = some (.int .i64 0) := BR8.cell 3
          have rz3 : w8.frozen? ⟨w.heap.size, 3, none⟩ = false := BR8.frozen 3
          have rc4 : w8.cell? ⟨w.heap.size, 4, none⟩ = some (.int .i64 0) := BR8.cell 4
          have rz4 : w8.frozen? ⟨w.heap.size, 4, none⟩ = false := BR8.frozen 4
          have rc5 : w8.cell? ⟨w.heap.size, 5, none⟩ = some (.string ⟨#[]⟩) := BR8.cell 5
          have rz5 : w8.frozen? ⟨w.heap.size, 5, none⟩ = false := BR8.frozen 5
          have rc6 : w8.cell? ⟨w.heap.size, 6, none⟩ = some (.slice none 0 0) := BR8.cell 6
          have rz6 : w8.frozen? ⟨w.heap.size, 6, none⟩ = false := BR8.frozen 6
          have rc7 : w8.cell? ⟨w.heap.size, 7, none⟩ = some (.slice none 0 0) := BR8.cell 7
          have rz7 : w8.frozen? ⟨w.heap.size, 7, none⟩ = false := BR8.frozen 7
          go_wp2_with fail
          refine bodyPost_ret (v := .tuple #[.agg #[.int .i64 5, .int .i64 ov, .string v4, .int .i64 0, .int .i64 0, .string ⟨#[]⟩, .slice none 0 0, .slice (some ⟨w6.heap.size, 0, none⟩) 1 1], .bool true]) (by simp [results, Tryz.results170, go_sem, rc0, rc1, rc2, rc3, rc4, rc5, rc6, rc7]) rfl ?_
          rw [HEND.out]
          have hv4 := HV4.out
          subst hv4
          exact cret8 (L := w3.heap.size) (x := nameE 5 ov nm [y]) (A := none) (c := 0) (A' := some ⟨w6.heap.size, 0, none⟩) (c' := 1) HX8.out (by omega) hlt HP8.out HK8.out
end Go.Proofs.YtobanldeicclmaaGreatDoor
