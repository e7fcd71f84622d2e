/- Lemmas for the claim: walks and plain laws. -/
import Derived.Test.YtobanldeicclmaaGreatDoorZ8
import Derived.Test.YtobanldeicclmaaGreatDoorZ14
import Derived.Deep.AppendLies
import Derived.Deep.DrawnRows
set_option maxHeartbeats 4000000
set_option maxRecDepth 100000
namespace Go.Proofs.YtobanldeicclmaaGreatDoor
open Go.RowKit Vtx
attribute [local go_sem ↓] Go.wp_at_zero Go.wp_at_succ
def bH (t : Tok) : List UInt8 := if t.touch then [63] else t.tx
def iT (l : List Tok) : List Value := l.flatMap (fun t => [.string (tb (bH t)), .int .i64 (t.at_ : Nat)])
theorem Yw : (Tryz.prog.info? 48).map (fun i => (i.zero, i.size, i.bytes)) = some (some (.agg #[.string ⟨#[]⟩, .int .i64 0]), 2, 24) := by kernel_rfl
theorem sN {w w' : World} {B size n : Nat} {e : TypeId} {v : Value} {xs : List Value} (h : w.ownsRow B e size v n xs) (hb : Below w.heap.size w w') : w'.ownsRow B e size v n xs := by
 refine h.kept (row := none) ⟨hb.os, hb.tape, hb.output, hb.size, fun k hk _ => hb.block k hk⟩ ?_
 cases hv : v.ownBlock with
 | none => exact .inl rfl
 | some g => exact .inr (by simp)
theorem TI {s : List UInt8} {n : Nat} (h : n < s.length) (h32 : s.getD n 0 ≠ 32) : bV s n = some ⟨n, (s.drop n).take (aJ (s.drop n)), decide (0 < n) && bK (s.getD (n - 1) 0) && bK (s.getD n 0)⟩ := by
 have e : aK aA (s.drop n) = 0 := by
  rw [drop_cons h, aK, if_neg (by unfold aA; simpa using h32)]
 unfold bV
 rw [e, Nat.add_zero, if_pos h]
 simp
theorem Jl {s : List UInt8} {n : Nat} (h : n < s.length) (h32 : s.getD n 0 = 32) : wordsOf s n = wordsOf s (n + 1) := by
 have e : aK aA (s.drop n) = aK aA (s.drop (n + 1)) + 1 := by
  rw [drop_cons h, aK, if_pos (by unfold aA; simpa using h32)]
 have e2 : n + aK aA (s.drop n) = n + 1 + aK aA (s.drop (n + 1)) := by omega
 have ht : bV s n = bV s (n + 1) := by
  unfold bV
  rw [e2]
  split
  ·
   congr 1
   congr 1
   rw [e, decide_eq_false (by omega)]
   have h3 : (n + 1 - 1) = n := by omega
   rw [h3, h32, show bK 32 = false from by decide]
   simp
  ·
   rfl
 rw [eQ s n, eQ s (n + 1), ht]
theorem Lr (s : ByteArray) (w : World) (hs : s.size ≤ 4000) : Calls Tryz.prog 14 #[.string s] w fun e w' => ∃ A c, e = .returned (.slice A (wordsOf s.data.toList 0).length c) ∧ w'.ownsRow w.heap.size 48 2 (.slice A (wordsOf s.data.toList 0).length c) (wordsOf s.data.toList 0).length (iT (wordsOf s.data.toList 0)) ∧ Below w.heap.size w w' := by
 obtain ⟨i0, hi0, hz0, hz1, hz2⟩ := info_parts Yw
 obtain ⟨L, hL⟩ := ae (wordsOf s.data.toList 0)
 have HL := qh hL
 rw [hL]
 clear hL
 go_enter Tryz.func14, Tryz.ntmps14
 go_wp2_with fail
 go_loopw [4, 3, 5, 6] (fun iv ov _ _ wz => ∃ (n : Nat) (acc : List Tok) (A : Option Addr) (c : Nat), iv = .int .i64 (n : Nat) ∧ ov = .slice A acc.length c ∧ Hid (n ≤ s.size) ∧ Hid (acc.length ≤ n) ∧ Hid (wz.ownsRow w.heap.size 48 2 (.slice A acc.length c) acc.length (iT acc)) ∧ Hid (L = acc ++ wordsOf s.data.toList n) ∧ Below w.heap.size w wz) (fun iv _ _ _ _ => s.size - (intOf iv).toNat)
 case atStart => exact ⟨0, [], none, 0, rfl, rfl, qh (Nat.zero_le _), qh (Nat.le_refl _), qh ⟨rfl, .inl ⟨rfl, rfl⟩⟩, qh HL.out.symm, Below.refl _ _⟩
 case round =>
  obtain ⟨n, acc, A, c, rfl, rfl, V9, BI, HO, TJ, hbr⟩ := hrel
  by_cases hlt : n < s.size
  ·
   have fO := qh hlt
   have GG : ((n : Nat) : Int) < ((s.size : Nat) : Int) := by omega
   by_cases h32 : (s[n]'hlt).toNat = 32
   ·
    have ZF := qh (Jl (s := s.data.toList) (n := n) (by rw [ak]; exact hlt) (by rw [jo hlt]; exact (toNat_eq _ 32 (by decide)).2 h32))
    have b1 : (((s[n]'hlt).toNat : Int) == 32) = true := by simp; omega
    clear h32
    go_wp2_with fail
    go_roundw
    case rel => exact ⟨n + 1, acc, A, c, by go_num, by try rfl, fO, qh (by have := BI.out; omega), HO, qh (by rw [TJ.out, ZF.out]), hbr⟩
    case measure =>
     have := fO.out
     simp [intOf]
     omega
   ·
    have htok := TI (s := s.data.toList) (n := n) (by rw [ak]; exact hlt) (by rw [jo hlt]; exact fun e => h32 ((toNat_eq _ 32 (by decide)).1 e))
    obtain ⟨t, htt⟩ := ae ((⟨n, (s.data.toList.drop n).take (aJ (s.data.toList.drop n)), decide (0 < n) && bK (s.data.toList.getD (n - 1) 0) && bK (s.data.toList.getD n 0)⟩ : Tok))
    rw [htt] at htok
    obtain ⟨E, hE⟩ := ae (n + aJ (s.data.toList.drop n))
    have hin := dW htok
    rw [ak] at hin
    have hta : t.at_ = n := by rw [← htt]
    have htE : t.at_ + t.tx.length = E := by rw [hin.2.2.2.2.2.2, hta, hE]
    have hEb : n < E ∧ E ≤ s.size := by omega
    have Q8 := qh hEb
    have Ie := qh hta
    have ZF := qh (show wordsOf s.data.toList n = t :: wordsOf s.data.toList E by rw [eQ, htok]; show t :: wordsOf _ (t.at_ + t.tx.length) = _; rw [htE])
    have htx : tb t.tx = s.extract n E := by rw [← htt, ← hE, Lm]
    obtain ⟨v0, hv0⟩ := ae (s.extract n E)
    rw [hv0] at htx
    have BJ : t.touch = (decide (0 < n) && bK (s.data.toList.getD (n - 1) 0) && bK (s[n]'hlt)) := by rw [← htt, ← jo hlt]
    have HTE := qh (show ∀ w', Calls Tryz.prog 34 #[.string s, .int .i64 (n : Nat)] w' fun e w'' => e = .returned (.int .i64 (E : Nat)) ∧ w' = w'' from fun w' => by
     have h := Gq s n w' hlt hs
     rwa [hE] at h)
    have b1 : (((s[n]'hlt).toNat : Int) == 32) = false := by simp; omega
    have hN1 : (0 : Int) ≤ ((n : Nat) : Int) := by omega
    have hN2 : ((n : Nat) : Int) ≤ ((E : Nat) : Int) := by omega
    have hN3 : ((E : Nat) : Int) ≤ ((s.size : Nat) : Int) := by omega
    have hN4 : n ≤ E := by omega
    have hN5 : E ≤ s.size := hEb.2
    obtain ⟨q2, hq2⟩ := ae (bK (s[n]'hlt))
    have HW2 := qh (fun w' => (show Calls Tryz.prog 35 #[.int .u8 ((s[n]'hlt).toNat : Nat)] w' fun e w'' => e = .returned (.bool q2) ∧ w' = w'' from (oN (s[n]'hlt) w').mono fun e w'' ⟨he, hw⟩ => ⟨he.trans (congrArg (fun x => Ending.returned (.bool x)) hq2), hw⟩))
    rw [hq2] at BJ
    have HTX := qh htx
    have XK := qh hv0
    clear htt hE hin hta htE hEb htok htx hq2 h32
    go_upto_region 8 with (go_at_call 34; (with_reducible refine (HTE.out _).mono ?_); rintro e w1 ⟨rfl, rfl⟩)
    try rw [hv0]
    obtain ⟨Wt, hWt⟩ := au (wr.alloc (.cells #[.string v0, .int .i64 (n : Nat)] 48 (0, 0)))
    have TK := qh (show Below wr.heap.size wr Wt by rw [hWt]; exact (Below.refl _ _).alloc (Nat.le_refl _) _)
    have BT : af Wt wr.heap.size 48 #[.string v0, .int .i64 (n : Nat)] := by rw [hWt]; exact af.new wr _ _
    rw [← hWt]
    clear hWt hv0
    by_cases hn0 : 0 < n
    ·
     have hi1 : n - 1 < s.size := by omega
     have acK : (0 : Int) < ((n : Nat) : Int) := by omega
     have aak : IntKind.i64.wrap (((n : Nat) : Int) - 1) = ((n - 1 : Nat) : Int) := by rw [show ((n : Nat) : Int) - 1 = ((n - 1 : Nat) : Int) by omega]; exact IntWalk.i64_in _ (by omega)
     obtain ⟨q1, hq1⟩ := ae (bK (s[n - 1]'hi1))
     have HW1 := qh (fun w' => (show Calls Tryz.prog 35 #[.int .u8 ((s[n - 1]'hi1).toNat : Nat)] w' fun e w'' => e = .returned (.bool q1) ∧ w' = w'' from (oN (s[n - 1]'hi1) w').mono fun e w'' ⟨he, hw⟩ => ⟨he.trans (congrArg (fun x => Ending.returned (.bool x)) hq1), hw⟩))
     rw [decide_eq_true hn0, jo hi1, hq1, Bool.true_and] at BJ
     clear hq1
     cases q1
     ·
      have vK := qh (show tb (bH t) = v0 by unfold bH; rw [BJ]; exact HTX.out)
      clear BJ
      go_upto_region 10 with (first | (go_at_call 35; (with_reducible refine (HW1.out _).mono ?_); rintro e w1 ⟨rfl, rfl⟩))
      obtain ⟨k0, k1⟩ := af.c2 BT
      have sO : Below w.heap.size w Wt := hbr.trans (TK.out.mono hbr.size)
      have Jm := qh (show Wt.ownsRow w.heap.size 48 2 (.slice A acc.length c) acc.length (iT acc) from sN HO.out TK.out)
      go_wp2_with (at_builtin; refine wpList_append_lies _ rfl _ _ 41 rfl w.heap.size 48 i0 (.agg #[.string ⟨#[]⟩, .int .i64 0]) 2 24 Tryz.underlying41 hi0 hz0 hz1 hz2 rfl (by decide) _ _ _ rfl (Jm.out.alloc _) ⟨Wt.heap.size, 0, none⟩ 1 1 [.string v0, .int .i64 (n : Nat)] rfl rfl ?acL ?acM (by decide) ?acN ?acO ?acP _ rfl ?_)
      try (case acL => exact World.news_of_block (af.new Wt 48 _))
      case acM => first | exact ⟨rfl, rfl⟩ | (intro u hu; simp only [List.mem_cons, List.not_mem_nil, or_false] at hu; rcases hu with rfl | rfl <;> rfl)
      case acN => have := BI.out; unfold maxLen; omega
      case acO => have := BI.out; omega
      case acP => have := sO.size; simp; omega
      intro g7 cap w7 ig kC kV ru
      have BL := qh ((sO.alloc sO.size _).grown kC (by have := sO.size; simp; omega) (fun k hk => (Jm.out.lt k hk).1))
      have e1 : (acc ++ [t]).length = acc.length + 1 := by simp
      have PD := qh (show w7.ownsRow w.heap.size 48 2 (.slice (some ⟨g7, 0, none⟩) (acc ++ [t]).length cap) (acc ++ [t]).length (iT (acc ++ [t])) by
       rw [e1, show iT (acc ++ [t]) = iT acc ++ [.string v0, .int .i64 (n : Nat)] from by simp [iT, vK.out, Ie.out]]
       exact ig)
      clear ig kC kV ru k0 k1
      go_wp2_with fail
      go_roundw
      case rel => exact ⟨E, acc ++ [t], _, _, by try rfl, by rw [e1], qh (by have := Q8.out; omega), qh (by rw [e1]; have := BI.out; have := Q8.out; omega), PD, qh (by rw [TJ.out, ZF.out]; simp), BL.out⟩
      case measure =>
       have := Q8.out
       simp [intOf]
       omega
     ·
      cases q2
      ·
       have vK := qh (show tb (bH t) = v0 by unfold bH; rw [BJ]; exact HTX.out)
       clear BJ
       go_upto_region 10 with (first | (go_at_call 35; (with_reducible refine (HW1.out _).mono ?_); rintro e w1 ⟨rfl, rfl⟩) | (go_at_call 35; (with_reducible refine (HW2.out _).mono ?_); rintro e w1 ⟨rfl, rfl⟩))
       obtain ⟨k0, k1⟩ := af.c2 BT
       have sO : Below w.heap.size w Wt := hbr.trans (TK.out.mono hbr.size)
       have Jm := qh (show Wt.ownsRow w.heap.size 48 2 (.slice A acc.length c) acc.length (iT acc) from sN HO.out TK.out)
       go_wp2_with (at_builtin; refine wpList_append_lies _ rfl _ _ 41 rfl w.heap.size 48 i0 (.agg #[.string ⟨#[]⟩, .int .i64 0]) 2 24 Tryz.underlying41 hi0 hz0 hz1 hz2 rfl (by decide) _ _ _ rfl (Jm.out.alloc _) ⟨Wt.heap.size, 0, none⟩ 1 1 [.string v0, .int .i64 (n : Nat)] rfl rfl ?acQ ?acR (by decide) ?acS ?acT ?acU _ rfl ?_)
       try (case acQ => exact World.news_of_block (af.new Wt 48 _))
       case acR => first | exact ⟨rfl, rfl⟩ | (intro u hu; simp only [List.mem_cons, List.not_mem_nil, or_false] at hu; rcases hu with rfl | rfl <;> rfl)
       case acS => have := BI.out; unfold maxLen; omega
       case acT => have := BI.out; omega
       case acU => have := sO.size; simp; omega
       intro g7 cap w7 ig kC kV ru
       have BL := qh ((sO.alloc sO.size _).grown kC (by have := sO.size; simp; omega) (fun k hk => (Jm.out.lt k hk).1))
       have e1 : (acc ++ [t]).length = acc.length + 1 := by simp
       have PD := qh (show w7.ownsRow w.heap.size 48 2 (.slice (some ⟨g7, 0, none⟩) (acc ++ [t]).length cap) (acc ++ [t]).length (iT (acc ++ [t])) by
        rw [e1, show iT (acc ++ [t]) = iT acc ++ [.string v0, .int .i64 (n : Nat)] from by simp [iT, vK.out, Ie.out]]
        exact ig)
       clear ig kC kV ru k0 k1
       go_wp2_with fail
       go_roundw
       case rel => exact ⟨E, acc ++ [t], _, _, by try rfl, by rw [e1], qh (by have := Q8.out; omega), qh (by rw [e1]; have := BI.out; have := Q8.out; omega), PD, qh (by rw [TJ.out, ZF.out]; simp), BL.out⟩
       case measure =>
        have := Q8.out
        simp [intOf]
        omega
      ·
       have vK := qh (show tb (bH t) = ⟨#[63]⟩ by unfold bH; rw [BJ]; rfl)
       clear BJ
       have f0 : Wt.cell? ⟨wr.heap.size, 0, none⟩ = some (.string v0) := BT.cell 0
       have fz0 : Wt.frozen? ⟨wr.heap.size, 0, none⟩ = false := BT.frozen 0
       go_upto_region 10 with (first | (go_at_call 35; (with_reducible refine (HW1.out _).mono ?_); rintro e w1 ⟨rfl, rfl⟩) | (go_at_call 35; (with_reducible refine (HW2.out _).mono ?_); rintro e w1 ⟨rfl, rfl⟩))
       obtain ⟨Wu, hWu⟩ := au (Wt.setCell ⟨wr.heap.size, 0, none⟩ (.string ⟨#[63]⟩))
       have TK := qh (show Below wr.heap.size wr Wu by rw [hWu]; exact TK.out.setCell (p := ⟨wr.heap.size, 0, none⟩) (Nat.le_refl _) _)
       have BU : af Wu wr.heap.size 48 #[.string ⟨#[63]⟩, .int .i64 (n : Nat)] := by rw [hWu]; have h := BT.kE 0 (.string ⟨#[63]⟩); simpa using h
       rw [← hWu]
       clear hWu f0 fz0 BT
       obtain ⟨k0, k1⟩ := af.c2 BU
       have sO : Below w.heap.size w Wu := hbr.trans (TK.out.mono hbr.size)
       have Jm := qh (show Wu.ownsRow w.heap.size 48 2 (.slice A acc.length c) acc.length (iT acc) from sN HO.out TK.out)
       go_wp2_with (at_builtin; refine wpList_append_lies _ rfl _ _ 41 rfl w.heap.size 48 i0 (.agg #[.string ⟨#[]⟩, .int .i64 0]) 2 24 Tryz.underlying41 hi0 hz0 hz1 hz2 rfl (by decide) _ _ _ rfl (Jm.out.alloc _) ⟨Wu.heap.size, 0, none⟩ 1 1 [.string ⟨#[63]⟩, .int .i64 (n : Nat)] rfl rfl ?acV ?acW (by decide) ?acX ?acY ?acZ _ rfl ?_)
       try (case acV => exact World.news_of_block (af.new Wu 48 _))
       case acW => first | exact ⟨rfl, rfl⟩ | (intro u hu; simp only [List.mem_cons, List.not_mem_nil, or_false] at hu; rcases hu with rfl | rfl <;> rfl)
       case acX => have := BI.out; unfold maxLen; omega
       case acY => have := BI.out; omega
       case acZ => have := sO.size; simp; omega
       intro g7 cap w7 ig kC kV ru
       have BL := qh ((sO.alloc sO.size _).grown kC (by have := sO.size; simp; omega) (fun k hk => (Jm.out.lt k hk).1))
       have e1 : (acc ++ [t]).length = acc.length + 1 := by simp
       have PD := qh (show w7.ownsRow w.heap.size 48 2 (.slice (some ⟨g7, 0, none⟩) (acc ++ [t]).length cap) (acc ++ [t]).length (iT (acc ++ [t])) by
        rw [e1, show iT (acc ++ [t]) = iT acc ++ [.string ⟨#[63]⟩, .int .i64 (n : Nat)] from by simp [iT, vK.out, Ie.out]]
        exact ig)
       clear ig kC kV ru k0 k1
       go_wp2_with fail
       go_roundw
       case rel => exact ⟨E, acc ++ [t], _, _, by try rfl, by rw [e1], qh (by have := Q8.out; omega), qh (by rw [e1]; have := BI.out; have := Q8.out; omega), PD, qh (by rw [TJ.out, ZF.out]; simp), BL.out⟩
       case measure =>
        have := Q8.out
        simp [intOf]
        omega
    ·
     have acK : ¬ (0 : Int) < ((n : Nat) : Int) := by omega
     rw [decide_eq_false hn0] at BJ
     have vK := qh (show tb (bH t) = v0 by unfold bH; rw [BJ]; exact HTX.out)
     clear BJ
     go_upto_region 10 with (fail)
     obtain ⟨k0, k1⟩ := af.c2 BT
     have sO : Below w.heap.size w Wt := hbr.trans (TK.out.mono hbr.size)
     have Jm := qh (show Wt.ownsRow w.heap.size 48 2 (.slice A acc.length c) acc.length (iT acc) from sN HO.out TK.out)
     go_wp2_with (at_builtin; refine wpList_append_lies _ rfl _ _ 41 rfl w.heap.size 48 i0 (.agg #[.string ⟨#[]⟩, .int .i64 0]) 2 24 Tryz.underlying41 hi0 hz0 hz1 hz2 rfl (by decide) _ _ _ rfl (Jm.out.alloc _) ⟨Wt.heap.size, 0, none⟩ 1 1 [.string v0, .int .i64 (n : Nat)] rfl rfl ?ac0 ?ac1 (by decide) ?ac2 ?ac3 ?ac4 _ rfl ?_)
     try (case ac0 => exact World.news_of_block (af.new Wt 48 _))
     case ac1 => first | exact ⟨rfl, rfl⟩ | (intro u hu; simp only [List.mem_cons, List.not_mem_nil, or_false] at hu; rcases hu with rfl | rfl <;> rfl)
     case ac2 => have := BI.out; unfold maxLen; omega
     case ac3 => have := BI.out; omega
     case ac4 => have := sO.size; simp; omega
     intro g7 cap w7 ig kC kV ru
     have BL := qh ((sO.alloc sO.size _).grown kC (by have := sO.size; simp; omega) (fun k hk => (Jm.out.lt k hk).1))
     have e1 : (acc ++ [t]).length = acc.length + 1 := by simp
     have PD := qh (show w7.ownsRow w.heap.size 48 2 (.slice (some ⟨g7, 0, none⟩) (acc ++ [t]).length cap) (acc ++ [t]).length (iT (acc ++ [t])) by
      rw [e1, show iT (acc ++ [t]) = iT acc ++ [.string v0, .int .i64 (n : Nat)] from by simp [iT, vK.out, Ie.out]]
      exact ig)
     clear ig kC kV ru k0 k1
     go_wp2_with fail
     go_roundw
     case rel => exact ⟨E, acc ++ [t], _, _, by try rfl, by rw [e1], qh (by have := Q8.out; omega), qh (by rw [e1]; have := BI.out; have := Q8.out; omega), PD, qh (by rw [TJ.out, ZF.out]; simp), BL.out⟩
     case measure =>
      have := Q8.out
      simp [intOf]
      omega
  ·
   have hns : n = s.size := by have := V9.out; omega
   have HLE := qh (show L = acc by rw [TJ.out, nY (by unfold bV; rw [List.drop_eq_nil_of_le (by rw [ak]; omega)]; exact if_neg (by rw [ak]; simp [aK]; omega)), List.append_nil])
   have GG : ¬ ((n : Nat) : Int) < ((s.size : Nat) : Int) := by omega
   clear hns
   go_wp2_with fail
   go_ret
   rw [HLE.out]
   exact ⟨A, c, by rfl, HO.out, hbr⟩
end Go.Proofs.YtobanldeicclmaaGreatDoor
namespace Go.Proofs.YtobanldeicclmaaGreatDoor
open Go.RowKit Vtx
theorem ji (o : Int) (A : Option Addr) (n : Nat) (c : Nat) (w : World) :
  Calls Tryz.prog 85 #[.int .i64 o, .slice A n c] w fun e w' => e = .returned (.agg #[.int .i64 4, .int .i64 o, .string ⟨#[]⟩, .int .i64 0, .int .i64 0, .string ⟨#[]⟩, .slice none 0 0, .slice A n c]) ∧ Below w.heap.size w w' := by
 go_enter Tryz.func85, Tryz.ntmps85
 go_wp2
 exact bodyPost_ret (v := .agg #[.int .i64 4, .int .i64 o, .string ⟨#[]⟩, .int .i64 0, .int .i64 0, .string ⟨#[]⟩, .slice none 0 0, .slice A n c]) (by simp [results, Tryz.results85, go_sem]) rfl ⟨rfl, (Below.refl _ w).alloc (Nat.le_refl _) _⟩
theorem sQ (k m : Int) (s : ByteArray) (A : Option Addr) (n c : Nat) (w : World) :
  Calls Tryz.prog 161 #[.agg #[.int .i64 k, .int .i64 m, .string s, .slice A n c]] w fun e w' => e = .returned (.agg #[.int .i64 1, .int .i64 0, .string ⟨#[]⟩, .int .i64 k, .int .i64 m, .string s, .slice A n c, .slice none 0 0]) ∧ Below w.heap.size w w' := by
 go_enter Tryz.func161, Tryz.ntmps161
 go_wp2
 exact bodyPost_ret (v := .agg #[.int .i64 1, .int .i64 0, .string ⟨#[]⟩, .int .i64 k, .int .i64 m, .string s, .slice A n c, .slice none 0 0]) (by simp [results, Tryz.results161, go_sem]) rfl ⟨rfl, ((Below.refl _ w).alloc (Nat.le_refl _) _).alloc (by simp) _⟩
def TM (w : World) (g : Nat) : Prop := ∃ w0 : World, Tab w0 ∧ Mx w0 ∧ w0.heap.size ≤ g ∧ Below w0.heap.size w0 w
theorem TM.kp {w w' : World} {g : Nat} (h : TM w g) (hk : Kp g w w') : TM w' g := by
 obtain ⟨w0, h1, h2, h3, h4⟩ := h
 exact ⟨w0, h1, h2, h3, h4.trans (hk.below h3 h4.size)⟩
theorem TM.tab {w : World} {g : Nat} (h : TM w g) : Tab w ∧ Mx w := by
 obtain ⟨w0, h1, h2, h3, h4⟩ := h
 exact ⟨h1.below h4, h2.below h4⟩
def fK (F : FuncId) (nt : NT) (s : ByteArray) (L : List Tok) : Prop := ∀ g i w, aP w g s i → TM w g → wordsOf s.data.toList i = L → Calls Tryz.prog F #[.pointer (some ⟨g, 0, none⟩)] w fun e w' => ui w g s (Pz s.data.toList.length nt [] L) e w'
theorem aP.kp {w w' : World} {g i : Nat} {s : ByteArray} (h : aP w g s i) (hb : w'.heap[g]? = w.heap[g]?) : aP w' g s i := ⟨by (try unfold ZB); unfold af; rw [hb]; exact h.b, h.i, h.s⟩
theorem aP.alloc {w : World} {g i : Nat} {s : ByteArray} (h : aP w g s i) (o : Obj) : aP (w.alloc o) g s i := ⟨h.b.alloc o, h.i, h.s⟩
theorem aP.below {w w' : World} {g i : Nat} {s : ByteArray} (h : aP w g s i) (hb : Below w.heap.size w w') : aP w' g s i := ⟨h.b.below hb h.b.lt, h.i, h.s⟩
theorem nN {w w' : World} {B size n g : Nat} {e : TypeId} {v : Value} {xs : List Value} (h : w.ownsRow B e size v n xs) (hb : Kp g w w') (hg : g < B) : w'.ownsRow B e size v n xs := by
 refine ⟨h.1, h.2.imp id ?_⟩
 rintro ⟨g', cap, cur, e0, e1, e2, e3⟩
 have hlt : g' < w.heap.size := (h.lt g' (by rw [e0]; rfl)).2
 exact ⟨g', cap, cur, e0, e1, by rw [hb.block g' hlt (fun e => by injection e with e; omega)]; exact e2, e3⟩
theorem qB {w : World} {b B size : Nat} {e : TypeId} {cs : List Value} (h : af w b e cs.toArray) (hB : B ≤ b) (hs : cs.length = size) : w.ownsRow B e size (.slice (some ⟨b, 0, none⟩) 1 1) 1 cs :=
 ⟨by rw [hs, Nat.one_mul], .inr ⟨b, 1, cs.toArray, rfl, hB, h, Nat.le_refl _, by unfold maxLen; omega, by simp [hs], by rw [Nat.one_mul, ← hs]; simp⟩⟩
theorem uN {w : World} {p : Nat → Prop} {B : Nat} {e : Ex} {cs : List Value} (h : dK w p B e cs) : cs.length = 8 := by
 cases h; rfl
theorem NZ : ∀ (css : List (List Value)) (_ : ∀ c ∈ css, c.length = 8) (i : Nat) (h : i < css.length), (css.flatten.drop (i * 8)).take 8 = css[i]
 | c :: r, hl, 0, _ => by
  have := hl c (List.mem_cons_self ..)
  simp [← this]
 | c :: r, hl, i + 1, h => by
  have h1 := hl c (List.mem_cons_self ..)
  rw [List.flatten_cons, show (i + 1) * 8 = c.length + i * 8 by omega, ← List.drop_drop, List.drop_left]
  exact NZ r (fun x hx => hl x (List.mem_cons_of_mem _ hx)) i (by simpa using h)
structure iw (w : World) (p : Nat → Prop) (es : List Ex) (css : List (List Value)) : Prop where
 len : es.length = css.length
 ex : ∀ j (h : j < es.length) (h' : j < css.length), dK w p w.heap.size es[j] css[j]
theorem iw.keep {w w' : World} {p : Nat → Prop} {es : List Ex} {css : List (List Value)} (h : iw w p es css) (hb : dG p w w') : iw w' p es css := ⟨h.len, fun j a b => ((h.ex j a b).keep hb).up hb.1⟩
theorem iw.imp {w : World} {p q : Nat → Prop} {es : List Ex} {css : List (List Value)} (h : iw w p es css) (hpq : ∀ k, p k → k < w.heap.size → q k) : iw w q es css := ⟨h.len, fun j a b => (h.ex j a b).imp hpq⟩
theorem iw.cells {w : World} {p : Nat → Prop} {es : List Ex} {css : List (List Value)} (h : iw w p es css) : ∀ c ∈ css, c.length = 8 := fun c hc => by
 obtain ⟨j, hj, rfl⟩ := List.mem_iff_getElem.1 hc
 exact uN (h.ex j (by rw [h.len]; exact hj) hj)
theorem iw.snoc {w : World} {p : Nat → Prop} {es : List Ex} {css : List (List Value)} (h : iw w p es css) {e : Ex} {cs : List Value} (he : dK w p w.heap.size e cs) : iw w p (es ++ [e]) (css ++ [cs]) := by
 refine ⟨by simp [h.len], fun j a b => ?_⟩
 by_cases hj : j < es.length
 ·
  rw [List.getElem_append_left hj, List.getElem_append_left (by rw [← h.len]; exact hj)]
  exact h.ex j hj _
 ·
  have e1 : j = es.length := by simp at a; omega
  subst e1
  rw [List.getElem_append_right (Nat.le_refl _), List.getElem_append_right (by rw [h.len]; exact Nat.le_refl _)]
  simpa [h.len] using he
theorem iw.one {w : World} {p : Nat → Prop} {e : Ex} {cs : List Value} (he : dK w p w.heap.size e cs) : iw w p [e] [cs] := by
 have h0 : iw w p [] [] := ⟨rfl, fun j a => by simp at a⟩
 exact h0.snoc he
theorem We {w : World} {L B : Nat} {es : List Ex} {css : List (List Value)} {A : Option Addr} {c : Nat} (o : Int) (h : iw w (fun b => L ≤ b) es css) (hL : L ≤ B) (ho : w.ownsRow B 27 8 (.slice A es.length c) es.length css.flatten) (hm : es.length ≤ maxLen) :
  dK w (fun b => L ≤ b) w.heap.size (bQ o es) [.int .i64 4, .int .i64 o, .string ⟨#[]⟩, .int .i64 0, .int .i64 0, .string ⟨#[]⟩, .slice none 0 0, .slice A es.length c] := by
 have hA : ∀ ad, A = some ad → L ≤ ad.block := fun ad e => by
  subst e
  rcases ho.2 with ⟨h0, -⟩ | ⟨g', cap, cur, e0, e1, -⟩
  ·
   cases h0
  ·
   injection e0 with e0 _ _
   injection e0 with e0
   subst e0
   show L ≤ g'
   omega
 refine dK.mk (e := bQ o es) (A := none) (c := 0) (A' := A) (c' := c) (cs := css.flatten) (show 0 ≤ maxLen from Nat.zero_le _) (show 0 ≤ maxLen from Nat.zero_le _) (show 0 ≤ maxLen from Nat.zero_le _) hm ⟨Reads.none_, fun _ ad e => by cases e⟩ ⟨Reads.uq ho, fun _ => hA⟩ (fun i hi => ?_)
 have hi' : i < css.length := by rw [← h.len]; exact hi
 rw [NZ css h.cells i hi']
 exact h.ex i hi hi'
theorem BM : (Tryz.prog.info? 27).map (fun i => (i.zero, i.size, i.bytes)) = some (some (.agg #[.int .i64 0, .int .i64 0, .string ByteArray.empty, .int .i64 0, .int .i64 0, .string ByteArray.empty, .slice none 0 0, .slice none 0 0]), 8, 112) := by kernel_rfl
abbrev dU (w : World) (b : Nat) (v0 v1 v2 v3 v4 v5 v6 v7 : Value) : World := ((((((((w.setCell ⟨b, 0, none⟩ v0).setCell ⟨b, 1, none⟩ v1).setCell ⟨b, 2, none⟩ v2).setCell ⟨b, 3, none⟩ v3).setCell ⟨b, 4, none⟩ v4).setCell ⟨b, 5, none⟩ v5).setCell ⟨b, 6, none⟩ v6).setCell ⟨b, 7, none⟩ v7)
theorem iy {w : World} {b : Nat} {T : TypeId} {u0 u1 u2 u3 u4 u5 u6 u7 : Value} (h : af w b T #[u0, u1, u2, u3, u4, u5, u6, u7]) (v0 v1 v2 v3 v4 v5 v6 v7 : Value) : af (dU w b v0 v1 v2 v3 v4 v5 v6 v7) b T #[v0, v1, v2, v3, v4, v5, v6, v7] := by
 have h8 := (((((((h.kE 0 v0).kE 1 v1).kE 2 v2).kE 3 v3).kE 4 v4).kE 5 v5).kE 6 v6).kE 7 v7
 simpa using h8
theorem df (w : World) (b : Nat) (v0 v1 v2 v3 v4 v5 v6 v7 : Value) : (dU w b v0 v1 v2 v3 v4 v5 v6 v7).heap.size = w.heap.size := by simp [World.setCell]
theorem dD (w : World) (b : Nat) (v0 v1 v2 v3 v4 v5 v6 v7 : Value) (k : Nat) (hk : k ≠ b) : (dU w b v0 v1 v2 v3 v4 v5 v6 v7).heap[k]? = w.heap[k]? := by
 have f : ∀ (w' : World) (i : Nat) (v : Value), (w'.setCell ⟨b, i, none⟩ v).heap[k]? = w'.heap[k]? := fun w' i v => Below.heap_setCell w' ⟨b, i, none⟩ v k hk
 simp only [dU, f]
theorem fF {g : Nat} {w0 w : World} (h : Kp g w0 w) {b : Nat} (hb : w0.heap.size ≤ b) (v0 v1 v2 v3 v4 v5 v6 v7 : Value) : Kp g w0 (dU w b v0 v1 v2 v3 v4 v5 v6 v7) :=
 ⟨by
  have f : ∀ (w' : World) (i : Nat) (v : Value), (w'.setCell ⟨b, i, none⟩ v).os = w'.os := fun _ _ _ => rfl
  simp only [dU, f]; exact h.os, by
  have f : ∀ (w' : World) (i : Nat) (v : Value), (w'.setCell ⟨b, i, none⟩ v).tape = w'.tape := fun _ _ _ => rfl
  simp only [dU, f]; exact h.tape, by
  have f : ∀ (w' : World) (i : Nat) (v : Value), (w'.setCell ⟨b, i, none⟩ v).output = w'.output := fun _ _ _ => rfl
  simp only [dU, f]; exact h.output, by rw [df]; exact h.size, fun k hk hg => by rw [dD _ _ _ _ _ _ _ _ _ _ k (by omega)]; exact h.block k hk hg⟩
theorem kL {s : ByteArray} {i : Nat} {word : List UInt8} (h : kU (wordsOf s.data.toList i) word = true) : wordsOf s.data.toList (aO s i + (aH s i).length) = (wordsOf s.data.toList i).tail ∧ (wordsOf s.data.toList (aO s i + (aH s i).length)).length + 1 = (wordsOf s.data.toList i).length := by
 unfold aO aH
 rw [eQ s.data.toList i] at h ⊢
 cases ht : bV s.data.toList i with
 | none => rw [ht] at h; cases h
 | some t => exact ⟨rfl, rfl⟩
theorem BN (o : Int) {l : List Ex} (h : 2 ≤ l.length) : pG o l = [bQ o l] := by
 match l, h with
 | a :: b :: r, _ => rfl
theorem Kp.grown {g : Nat} {w w' w'' : World} {row : Option Nat} (h : Kp g w w') (h' : w'.grownBy w'' row) (hr : ∀ k, row = some k → w.heap.size ≤ k) : Kp g w w'' :=
 ⟨h'.os.trans h.os, h'.tape.trans h.tape, h'.output.trans h.output, Nat.le_trans h.size h'.size, fun k hk hg => (h'.block k (Nat.lt_of_lt_of_le hk h.size) (fun e => by have := hr k e.symm; omega)).trans (h.block k hk hg)⟩
theorem zy (Wh : FuncId) (TL Ig : NT) (o : Int) (word : List UInt8) (hwd : word ≠ []) (hCF : ∀ (a : Array Value) (W : World), (callFunc Wh a).run Tryz.prog W = .ok (.enter Wh a) W) (n9 : Nat) (hE : ∀ es l, kU l word = false → Pz n9 Ig es l = .ok (pG o es) l) (hN : ∀ es l, kU l word = true → Pz n9 Ig es l = (Pz n9 TL [] l.tail).bind fun es1 l1 => Pz n9 Ig (es ++ es1) l1) (g : Nat) (s : ByteArray) (i : Nat) (w : World) (hn9 : n9 = s.data.toList.length) (h : aP w g s i) (hm : TM w g) (L : List Tok) (hL : wordsOf s.data.toList i = L) (hP : ∀ L', L'.length ≤ L.length → fK Wh TL s L') :
  Calls Tryz.prog 54 #[.pointer (some ⟨g, 0, none⟩), .string (tb word), .int .i64 o, .func (.func Wh) #[.pointer (some ⟨g, 0, none⟩)] #[]] w fun e w' => ui w g s ((Pz s.data.toList.length TL [] L).bind fun es l1 => Pz s.data.toList.length Ig es l1) e w' := by
 have xk := qh hP
 have TJ := qh hwd
 subst hn9
 have HE9 := qh hE
 have HN9 := qh hN
 clear hwd hE hN
 have hlt := h.b.lt
 have H1 := qh (fun W hp hm => hP L (Nat.le_refl _) g i W hp hm hL)
 have HM := qh hm
 obtain ⟨t, ht⟩ := ae (tb word)
 rw [ht]
 obtain ⟨r, hr⟩ := ae (Pz s.data.toList.length TL [] L)
 rw [hr] at H1 ⊢
 have HR := qh hr
 have jD := qh h
 have HT := qh ht
 clear hr hP h ht hm
 go_enter Tryz.func54, Tryz.ntmps54
 go_wp2_with fail
 obtain ⟨W, hW, hkW, BR, -, hWs, -⟩ := dY g w
 have iZ := qh (show aP W g s i by rw [hW]; exact jD.out.alloc _)
 rw [← hW]
 clear hW
 refine (H1.out W iZ.out (HM.out.kp hkW)).mono ?_
 cases r with
 | err k =>
  rintro e w1 ⟨rfl, hk1⟩
  go_wp2_with fail
  exact ⟨rfl, rfl, hkW.trans hk1⟩
 | ok es l1 =>
  rintro e w1 ⟨x, i1, cs, rfl, rfl, rfl, hx, hp1, hk1⟩
  have HX := qh hx
  obtain ⟨hn1, hs1, hl1, ha1, hx1, hr1, hi1⟩ := hx
  rename_i A1 c1 A2 c2 cs1
  clear hx1 hr1 hi1
  have HP := qh hp1
  have B1 : ZB w1 w.heap.size := by (try unfold ZB); unfold af; rw [hk1.block _ BR.lt (fun e => by injection e with e; omega)]; exact BR
  clear BR
  obtain ⟨b, hb⟩ := ae (kU (wordsOf s.data.toList i1) word)
  have HI := qh (fun (W' : World) (hp : aP W' g s i1) => uM g s i1 W' hp word TJ.out)
  rw [hb, HT.out] at HI
  have lu := qh hb
  have exa : (ai x A1 c1 A2 c2).toArray = #[.int .i64 x.k, .int .i64 x.op, .string x.nm, .int .i64 x.v.k, .int .i64 x.v.n, .string x.v.s, .slice A1 x.v.l.length c1, .slice A2 x.ar.length c2] := rfl
  rw [exa]
  cases b
  ·
   go_wp2_with fail
   obtain ⟨W1, hW1⟩ := au (w1.alloc (.cells #[.int .i64 x.k, .int .i64 x.op, .string x.nm, .int .i64 x.v.k, .int .i64 x.v.n, .string x.v.s, .slice A1 x.v.l.length c1, .slice A2 x.ar.length c2] 27 (0, 0)))
   have mW := qh (show Kp g w W1 by rw [hW1]; exact (hkW.trans hk1).alloc _)
   have HST := qh (show dG (fun b => W.heap.size ≤ b) w1 W1 by rw [hW1]; exact dG.of ((Below.refl _ _).alloc (Nat.le_refl _) _))
   have Ih := qh (show aP W1 g s i1 by rw [hW1]; exact HP.out.alloc _)
   have BR : ZB W1 w.heap.size := by rw [hW1]; exact B1.alloc _
   have BX : af W1 w1.heap.size 27 #[.int .i64 x.k, .int .i64 x.op, .string x.nm, .int .i64 x.v.k, .int .i64 x.v.n, .string x.v.s, .slice A1 x.v.l.length c1, .slice A2 x.ar.length c2] := by rw [hW1]; exact af.new w1 _ _
   rw [← hW1]
   clear hW1 B1
   obtain ⟨aQ, eX, aS, eY, aT, fD, aU, fE, aY, jR, aZ, jS, bu, jT, bz, jU⟩ := af.z8 BR
   obtain ⟨XL, TN, TP, XM, XN, XO, XP, XQ⟩ := af.c8 BX
   go_wp2_with (go_at_call 84; (with_reducible refine (HI.out _ Ih.out).mono ?_); rintro e w2 ⟨rfl, rfl⟩)
   refine bodyPost_ret (v := .agg #[.int .i64 x.k, .int .i64 x.op, .string x.nm, .int .i64 x.v.k, .int .i64 x.v.n, .string x.v.s, .slice A1 x.v.l.length c1, .slice A2 x.ar.length c2]) (by simp [results, Tryz.results54, go_sem, aQ, aS, aT, aU, aY, aZ, bu, bz]) rfl ?_
   have hend : (jO.ok [x] (wordsOf s.data.toList i1)).bind (fun es l1 => Pz s.data.toList.length Ig es l1) = .ok [x] (wordsOf s.data.toList i1) := HE9.out _ _ hb
   rw [hend]
   refine ⟨x, i1, ai x A1 c1 A2 c2, rfl, rfl, rfl, ?_, ?_, fF mW.out (Nat.le_refl _) _ _ _ _ _ _ _ _⟩
   ·
    have hst : dG (fun b => W.heap.size ≤ b) w1 (dU W1 w.heap.size (.int .i64 x.k) (.int .i64 x.op) (.string x.nm) (.int .i64 x.v.k) (.int .i64 x.v.n) (.string x.v.s) (.slice A1 x.v.l.length c1) (.slice A2 x.ar.length c2)) :=
     ⟨by rw [df]; exact HST.out.1, fun k hk hl => by rw [dD _ _ _ _ _ _ _ _ _ _ k (by omega)]; exact HST.out.2 k hk hl⟩
    exact ((HX.out.keep hst).up hst.1).imp (fun k hk _ => by omega)
   ·
    exact Ih.out.kp (dD _ _ _ _ _ _ _ _ _ _ g (by omega))
  ·
   go_wp2_with fail
   obtain ⟨W1, hW1⟩ := au (w1.alloc (.cells #[.int .i64 x.k, .int .i64 x.op, .string x.nm, .int .i64 x.v.k, .int .i64 x.v.n, .string x.v.s, .slice A1 x.v.l.length c1, .slice A2 x.ar.length c2] 27 (0, 0)))
   have mW := qh (show Kp g w W1 by rw [hW1]; exact (hkW.trans hk1).alloc _)
   have HST := qh (show dG (fun b => W.heap.size ≤ b) w1 W1 by rw [hW1]; exact dG.of ((Below.refl _ _).alloc (Nat.le_refl _) _))
   have Ih := qh (show aP W1 g s i1 by rw [hW1]; exact HP.out.alloc _)
   have BR : ZB W1 w.heap.size := by rw [hW1]; exact B1.alloc _
   have BX : af W1 w1.heap.size 27 #[.int .i64 x.k, .int .i64 x.op, .string x.nm, .int .i64 x.v.k, .int .i64 x.v.n, .string x.v.s, .slice A1 x.v.l.length c1, .slice A2 x.ar.length c2] := by rw [hW1]; exact af.new w1 _ _
   rw [← hW1]
   clear hW1 B1
   obtain ⟨XL, TN, TP, XM, XN, XO, XP, XQ⟩ := af.c8 BX
   go_wp2_with (go_at_call 84; (with_reducible refine (HI.out _ Ih.out).mono ?_); rintro e w2 ⟨rfl, rfl⟩)
   obtain ⟨W2, hW2⟩ := au (W1.alloc (.cells #[.int .i64 x.k, .int .i64 x.op, .string x.nm, .int .i64 x.v.k, .int .i64 x.v.n, .string x.v.s, .slice A1 x.v.l.length c1, .slice A2 x.ar.length c2] 27 (0, 0)))
   have mG := qh (show Kp g w W2 by rw [hW2]; exact mW.out.alloc _)
   have HP2 := qh (show aP W2 g s i1 by rw [hW2]; exact Ih.out.alloc _)
   have HB2 := qh (show ZB W2 w.heap.size by rw [hW2]; exact BR.alloc _)
   have HO2 := qh (show W2.ownsRow W1.heap.size 27 8 (.slice (some ⟨W1.heap.size, 0, none⟩) 1 1) 1 (ai x A1 c1 A2 c2) by rw [hW2]; exact qB (af.new W1 _ _) (Nat.le_refl _) rfl)
   have Ii := qh (show dK W2 (fun b => W.heap.size ≤ b ∧ b ≠ W1.heap.size) W2.heap.size x (ai x A1 c1 A2 c2) by
    have h1 := (HX.out.keep HST.out).imp (q := fun b => W.heap.size ≤ b ∧ b ≠ W1.heap.size) (fun k hk hl => ⟨hk, by have := HST.out.1; omega⟩)
    rw [hW2]
    exact (h1.keep (dG.of ((Below.refl _ _).alloc (Nat.le_refl _) _))).up (by have := HST.out.1; simp; omega))
   have hsz2 : W2.heap.size = W1.heap.size + 1 := by rw [hW2]; simp
   rw [← hW2]
   clear hW2 BR BX XL TN TP XM XN XO XP XQ
   obtain ⟨R, hR⟩ := ae (Pz s.data.toList.length Ig [x] (wordsOf s.data.toList i1))
   have HRR := qh hR.symm
   have zA : ((jO.ok [x] (wordsOf s.data.toList i1)).bind fun es l1 => Pz s.data.toList.length Ig es l1) = R := hR
   have HG := qh zA
   clear zA hR
   go_loopw [10] (fun v wr => ∃ (acc : List Ex) (css : List (List Value)) (A : Option Addr) (c i2 : Nat), v = .slice A acc.length c ∧ Hid (iw wr (fun b => W.heap.size ≤ b ∧ some b ≠ (Value.slice A acc.length c).ownBlock) acc css) ∧ Hid (wr.ownsRow W1.heap.size 27 8 (.slice A acc.length c) acc.length css.flatten) ∧ Hid (W1.heap.size ≤ wr.heap.size) ∧ Hid (aP wr g s i2) ∧ Hid (Kp g w wr) ∧ Hid (ZB wr w.heap.size) ∧ Hid (R = Pz s.data.toList.length Ig acc (wordsOf s.data.toList i2)) ∧ Hid (acc.length + (wordsOf s.data.toList i2).length ≤ 4001 ∧ (wordsOf s.data.toList i2).length ≤ L.length) ∧ Hid (1 ≤ acc.length ∧ (acc.length = 1 → kU (wordsOf s.data.toList i2) word = true))) (fun v _ => 4001 - (match v with
    | .slice _ n _ => n
    | _ => 0))
   case atStart =>
    refine ⟨[x], [ai x A1 c1 A2 c2], some ⟨W1.heap.size, 0, none⟩, 1, i1, rfl, ?_, ?_, ?_, HP2, mG, HB2, HRR, ?_, qh ⟨Nat.le_refl _, fun _ => lu.out⟩⟩
    ·
     exact qh (iw.one (Ii.out.imp (fun k hk _ => ⟨hk.1, fun e => hk.2 (by injection e)⟩)))
    ·
     exact qh (by simpa using HO2.out)
    ·
     exact qh (by omega)
    ·
     have h1 := rV HR.out
     have h2 := qU s.data.toList (s.data.toList.length + 1) i1
     rw [ak] at h2
     have h3 : (wordsOf s.data.toList i1).length ≤ 4000 := by have := HP.out.s; unfold wordsOf; rw [ak]; omega
     exact qh ⟨by simp; omega, h1⟩
   case round =>
    obtain ⟨acc, css, A, c, i2, rfl, HE, HO, GH, PE, qI, DL, uO, qJ, Wi⟩ := hrel
    obtain ⟨b2, hb2⟩ := ae (kU (wordsOf s.data.toList i2) word)
    have HI2 := qh (uM g s i2 wr PE.out word TJ.out)
    rw [hb2, HT.out] at HI2
    have TQ := qh hb2
    clear hb2
    cases b2
    ·
     go_wp2_with (go_at_call 84; (with_reducible refine HI2.out.mono ?_); rintro e w3 ⟨rfl, rfl⟩)
     refine (ji o A acc.length c wr).mono ?_
     rintro e w3 ⟨rfl, hb3⟩
     have B3 := DL.out.below hb3 DL.out.lt
     obtain ⟨aQ, eX, aS, eY, aT, fD, aU, fE, aY, jR, aZ, jS, bu, jT, bz, jU⟩ := af.z8 B3
     go_wp2_with fail
     refine bodyPost_ret (v := .agg #[.int .i64 4, .int .i64 o, .string ⟨#[]⟩, .int .i64 0, .int .i64 0, .string ⟨#[]⟩, .slice none 0 0, .slice A acc.length c]) (by simp [results, Tryz.results54, go_sem, aQ, aS, aT, aU, aY, aZ, bu, bz]) rfl ?_
     have hne : acc.length ≠ 1 := fun e => by have := Wi.out.2 e; rw [TQ.out] at this; cases this
     have hend : R = .ok [bQ o acc] (wordsOf s.data.toList i2) := by rw [uO.out, HE9.out _ _ TQ.out, BN o (by have := Wi.out.1; omega)]
     rw [HG.out, hend]
     have hLB : W.heap.size ≤ W1.heap.size := Nat.le_trans hk1.size HST.out.1
     have hst : dG (fun b => W.heap.size ≤ b) wr (dU w3 w.heap.size (.int .i64 4) (.int .i64 o) (.string ⟨#[]⟩) (.int .i64 0) (.int .i64 0) (.string ⟨#[]⟩) (.slice none 0 0) (.slice A acc.length c)) :=
      ⟨by rw [df]; exact hb3.size, fun k hk hl => by rw [dD _ _ _ _ _ _ _ _ _ _ k (by omega)]; exact hb3.block k hl⟩
     have hml : acc.length ≤ maxLen := by have := qJ.out.1; unfold maxLen; omega
     refine ⟨bQ o acc, i2, _, rfl, rfl, rfl, ?_, ?_, fF (qI.out.trans (Kp.of hb3)) (Nat.le_refl _) _ _ _ _ _ _ _ _⟩
     ·
      exact (((We o (HE.out.imp (fun k hk _ => hk.1)) hLB HO.out hml).keep hst).up hst.1).imp (fun k hk _ => by omega)
     ·
      exact (PE.out.below hb3).kp (dD _ _ _ _ _ _ _ _ _ _ g (by omega))
    ·
     have HN := qh (next_any g s i2 wr PE.out)
     have htl := kL TQ.out
     obtain ⟨i3, hi3⟩ := ae (aO s i2 + (aH s i2).length)
     rw [hi3] at HN htl
     have jW := qh htl
     clear hi3 htl
     go_wp2_with (first | (go_at_call 84; (with_reducible refine HI2.out.mono ?_); rintro e w3 ⟨rfl, rfl⟩) | (go_at_call 30; (with_reducible refine HN.out.mono ?_); rintro e w4 ⟨rfl, wu, hk4⟩; have vU := qh wu; have iK := qh hk4; clear wu hk4))
     have hcall := xk.out (wordsOf s.data.toList i3) (by have := jW.out.2; have := qJ.out.2; omega) g i3 _ vU.out (HM.out.kp (qI.out.trans iK.out)) rfl
     obtain ⟨r2, hr2⟩ := ae (Pz s.data.toList.length TL [] (wordsOf s.data.toList i3))
     rw [hr2] at hcall
     refine hcall.mono ?_
     cases r2 with
     | err k =>
      rintro e w5 ⟨rfl, hk5⟩
      have hend : R = .err k := by rw [uO.out, HN9.out _ _ TQ.out, ← jW.out.1, hr2]; rfl
      go_wp2_with fail
      refine ⟨rfl, ?_⟩
      rw [HG.out, hend]
      exact ⟨rfl, (qI.out.trans iK.out).trans hk5⟩
     | ok es2 l2 =>
      rintro e w5 ⟨y, i4, ycs, rfl, rfl, rfl, hy, xG, hk5⟩
      have HY := qh hy
      obtain ⟨hn3, hs3, hl3, XI, hx3, hr3, hi3⟩ := hy
      rename_i A3 c3 A4 c4 aan
      clear hx3 hr3 hi3
      have exb : (ai y A3 c3 A4 c4).toArray = #[.int .i64 y.k, .int .i64 y.op, .string y.nm, .int .i64 y.v.k, .int .i64 y.v.n, .string y.v.s, .slice A3 y.v.l.length c3, .slice A4 y.ar.length c4] := rfl
      rw [exb]
      have ng := iK.out.trans hk5
      have hgW : g < W1.heap.size := Ih.out.b.lt
      have Jn := qh (nN HO.out ng hgW)
      have rq := qh (qI.out.trans ng)
      have D5 := qh ng
      have D6 := qh xG
      have hb5 : W1.heap.size ≤ w5.heap.size := by have := Jn.out.2; exact Nat.le_trans GH.out ng.size
      obtain ⟨i0, hi0, hz0, hz1, hz2⟩ := info_parts BM
      have hal : acc.length ≤ 4001 := by have := qJ.out.1; omega
      go_wp2_with (at_builtin; refine wpList_append_lies _ rfl _ _ 25 rfl W1.heap.size 27 i0 (.agg #[.int .i64 0, .int .i64 0, .string ⟨#[]⟩, .int .i64 0, .int .i64 0, .string ⟨#[]⟩, .slice none 0 0, .slice none 0 0]) 8 112 Tryz.underlying25 hi0 hz0 hz1 hz2 rfl (by decide) _ _ _ rfl (Jn.out.alloc _) ⟨w5.heap.size, 0, none⟩ 1 1 [.int .i64 y.k, .int .i64 y.op, .string y.nm, .int .i64 y.v.k, .int .i64 y.v.n, .string y.v.s, .slice A3 y.v.l.length c3, .slice A4 y.ar.length c4] rfl rfl ?d1 ?d2 (by decide) ?d3 ?d4 ?d5 _ rfl ?_)
      case d1 => exact World.news_of_block (af.new w5 27 _)
      case d2 => intro u hu; simp only [List.mem_cons, List.not_mem_nil, or_false] at hu; rcases hu with rfl | rfl | rfl | rfl | rfl | rfl | rfl | rfl <;> rfl
      case d3 => unfold maxLen; omega
      case d4 => omega
      case d5 => simp; omega
      intro g7 cap w7 ig kC kV ru
      have ag6 : Kp g w5 (w5.alloc (.cells #[.int .i64 y.k, .int .i64 y.op, .string y.nm, .int .i64 y.v.k, .int .i64 y.v.n, .string y.v.s, .slice A3 y.v.l.length c3, .slice A4 y.ar.length c4] 27 (0, 0))) := (iR g w5).alloc _
      go_wp2_with fail
      go_roundw
      case rel =>
       have hob : ∀ k, (Value.slice A acc.length c).ownBlock = some k → W1.heap.size ≤ k := fun k hk => (Jn.out.lt k hk).1
       have hs7 := kC.size
       have hgb : w7.heap[g]? = w5.heap[g]? := (kC.block g (by have := D6.out.b.lt; simp; omega) (fun e => by have := hob g e.symm; omega)).trans (Below.heap_alloc w5 _ g D6.out.b.lt)
       refine ⟨acc ++ [y], css ++ [ai y A3 c3 A4 c4], some ⟨g7, 0, none⟩, cap, i4, by simp, ?_, ?_, ?_, qh (D6.out.kp hgb), ?_, ?_, ?_, ?_, ?_⟩
       ·
        have h1 := HE.out.imp (q := fun b => (W.heap.size ≤ b ∧ some b ≠ (Value.slice A acc.length c).ownBlock) ∧ some b ≠ some g7) (fun k hk hl => ⟨hk, fun e => by
         injection e with e
         rcases kV with h | h
         ·
          exact hk.2 (by rw [h, e])
         ·
          have := ng.size
          try simp at h
          omega⟩)
        have h2 := (h1.keep (w' := w7) ⟨by have := ng.size; simp at hs7; omega, fun k hk hl => by
         have hz := ng.size
         rw [kC.block k (by simp; omega) hk.1.2, Below.heap_alloc w5 _ k (by omega)]
         exact ng.block k hl (fun e => by injection e with e; have := iZ.out.b.lt; have := hk.1.1; omega)⟩).imp (q := fun b => W.heap.size ≤ b ∧ some b ≠ (Value.slice (some ⟨g7, 0, none⟩) (acc ++ [y]).length cap).ownBlock) (fun k hk _ => ⟨hk.1.1, hk.2⟩)
        have hwo : ∀ k, (Value.slice A acc.length c).ownBlock = some k → k < wr.heap.size := fun k hk => (HO.out.lt k hk).2
        have hz4 := iK.out.size
        have hzL : W.heap.size ≤ W1.heap.size := Nat.le_trans hk1.size HST.out.1
        have hz1 := GH.out
        have h3 := HY.out.imp (q := fun b => b < w5.heap.size ∧ (W.heap.size ≤ b ∧ some b ≠ (Value.slice (some ⟨g7, 0, none⟩) (acc ++ [y]).length cap).ownBlock) ∧ some b ≠ (Value.slice A acc.length c).ownBlock) (fun k hk hl => ⟨hl, ⟨by omega, fun e => by
         have e' : k = g7 := by injection e
         rcases kV with h | h
         ·
          have := hwo g7 h
          omega
         ·
          try simp at h
          omega⟩, fun e => by
         have := hwo k e.symm
         omega⟩)
        have h4 := ((h3.keep (w' := w7) ⟨by simp at hs7; omega, fun k hk hl => by
         rw [kC.block k (by simp; omega) hk.2.2, Below.heap_alloc w5 _ k hl]⟩).up (B' := w7.heap.size) (by simp at hs7; omega)).imp (q := fun b => W.heap.size ≤ b ∧ some b ≠ (Value.slice (some ⟨g7, 0, none⟩) (acc ++ [y]).length cap).ownBlock) (fun k hk _ => hk.2.1)
        exact qh (h2.snoc h4)
       ·
        have e1 : (acc ++ [y]).length = acc.length + 1 := by simp
        have e2 : (css ++ [ai y A3 c3 A4 c4]).flatten = css.flatten ++ ai y A3 c3 A4 c4 := by simp
        rw [e1, e2]
        exact qh ig
       ·
        exact qh (by simp at hs7; omega)
       ·
        exact qh ((rq.out.alloc _).grown kC (fun k hk => by
         have h1 := hob k hk
         have h2 := HST.out.1
         have h3 := hk1.size
         omega))
       ·
        have h2 := HST.out.1
        have h3 := hk1.size
        have h4 := DL.out.lt
        have h5 := ng.size
        have h6 : ZB w7 w.heap.size := by
         (try unfold ZB); unfold af
         rw [kC.block _ (by simp; omega) (fun e => by have := hob _ e.symm; omega), Below.heap_alloc w5 _ _ (by omega), ng.block _ h4 (fun e => by injection e with e; omega)]
         exact DL.out
        exact qh h6
       ·
        have h1 : R = Pz s.data.toList.length Ig (acc ++ [y]) (wordsOf s.data.toList i4) := by rw [uO.out, HN9.out _ _ TQ.out, ← jW.out.1, hr2]; rfl
        exact qh h1
       ·
        have h1 := rV hr2
        have h2 := jW.out.2
        have h3 := qJ.out
        exact qh ⟨by simp; omega, by omega⟩
       ·
        have h1 := Wi.out.1
        exact qh ⟨by simp, fun e => by simp at e; rw [e] at h1; exact absurd h1 (by decide)⟩
      case measure =>
       have h1 := qJ.out.1
       have h2 := jW.out.2
       simp
       omega
theorem Jo (g : Nat) (s : ByteArray) (i : Nat) (w : World) (h : aP w g s i) (hm : TM w g) (L : List Tok) (hL : wordsOf s.data.toList i = L) (hP : ∀ L', L'.length ≤ L.length → fK 55 .and s L') :
  Calls Tryz.prog 54 #[.pointer (some ⟨g, 0, none⟩), .string (tb QU), .int .i64 3, .func (.func 55) #[.pointer (some ⟨g, 0, none⟩)] #[]] w fun e w' => ui w g s ((Pz s.data.toList.length .and [] L).bind fun es l1 => Pz s.data.toList.length .Ia es l1) e w' :=
 zy 55 .and .Ia 3 QU (by decide) (fun a W => by simp [callFunc, go_sem, Tryz.func55, Tryz.f55]) s.data.toList.length (fun es l h => VK h) (fun es l h => by
  rw [bW]
  dsimp only [dB]
  rw [if_pos h]) g s i w rfl h hm L hL hP
theorem Jp (g : Nat) (s : ByteArray) (i : Nat) (w : World) (h : aP w g s i) (hm : TM w g) (L : List Tok) (hL : wordsOf s.data.toList i = L) (hP : ∀ L', L'.length ≤ L.length → fK 86 .not s L') :
  Calls Tryz.prog 54 #[.pointer (some ⟨g, 0, none⟩), .string (tb zL), .int .i64 2, .func (.func 86) #[.pointer (some ⟨g, 0, none⟩)] #[]] w fun e w' => ui w g s ((Pz s.data.toList.length .not [] L).bind fun es l1 => Pz s.data.toList.length .tZ es l1) e w' :=
 zy 86 .not .tZ 2 zL (by decide) (fun a W => by simp [callFunc, go_sem, Tryz.func86, Tryz.f86]) s.data.toList.length (fun es l h => SB h) (fun es l h => by
  rw [bW]
  dsimp only [dB]
  rw [if_pos h]) g s i w rfl h hm L hL hP
end Go.Proofs.YtobanldeicclmaaGreatDoor
