/- Lemmas for the claim: walks and plain laws. -/
import Derived.Test.YtobanldeicclmaaGreatDoorZ33
import Derived.Test.YtobanldeicclmaaGreatDoorZ16
import Derived.Laws.BytesArg
import Derived.Lib.Bytes
import Derived.Test.YtobanldeicclmaaGreatDoorZ26
set_option maxHeartbeats 8000000
set_option maxRecDepth 100000
namespace Go.Proofs.YtobanldeicclmaaGreatDoor
open Go.RowKit Vtx
attribute [local go_sem ↓] Go.wp_at_zero Go.wp_at_succ
def oJ (l : List UInt8) : List Value := l.map (fun x => .int .u8 (x.toNat : Nat))
theorem Zl : (Tryz.prog.info? 5).map (fun i => (i.zero, i.size, i.bytes)) = some (some (.int .u8 0), 1, 1) := by kernel_rfl
theorem Dz {c : UInt8} (h : c.toNat = 32) : c = 32 := UInt8.toNat_inj.1 h
theorem QI (s : ByteArray) (w : World) (hs : s.size ≤ 4000) : Calls Tryz.prog 181 #[.string s] w fun e w' => e = .returned (.string (tb (iE s.data.toList))) ∧ Below w.heap.size w w' := by
 obtain ⟨T, hT⟩ := ae (iE s.data.toList)
 have HT0 := qh (show T = [] ++ qx ([] : List UInt8).getLast? (s.data.toList.drop 0) by rw [← hT, AU]; rfl)
 rw [hT]
 clear hT
 obtain ⟨i0, hi0, hz0, hz1, hz2⟩ := info_parts Zl
 go_enter Tryz.func181, Tryz.ntmps181
 go_wp2_with fail
 go_loopw [4, 3, 5] (fun iv ov _ wz => ∃ (n : Nat) (acc : List UInt8) (A : Option Addr) (c : Nat), iv = .int .i64 (n : Nat) ∧ ov = .slice A acc.length c ∧ Hid (n ≤ s.size) ∧ Hid (acc.length ≤ n) ∧ Hid (wz.ownsRow w.heap.size 5 1 (.slice A acc.length c) acc.length (oJ acc)) ∧ Hid (T = acc ++ qx acc.getLast? (s.data.toList.drop n)) ∧ Below w.heap.size w wz) (fun iv _ _ _ => s.size - (intOf iv).toNat)
 case atStart => exact ⟨0, [], none, 0, rfl, rfl, qh (Nat.zero_le _), qh (Nat.le_refl _), qh ⟨rfl, .inl ⟨rfl, rfl⟩⟩, HT0, Below.refl _ _⟩
 case round =>
  obtain ⟨n, acc, A, c, rfl, rfl, V9, BI, HO, jf, hbr⟩ := hrel
  by_cases hlt : n < s.size
  ·
   have fO := qh hlt
   obtain ⟨M, hM⟩ := ae (acc.length)
   have HM := qh hM
   rw [hM] at HO
   rw [hM]
   have HN := qh (show M ≤ 4000 by have := BI.out; omega)
   have GG : ((n : Nat) : Int) < ((s.size : Nat) : Int) := by omega
   by_cases h32 : (s[n]'hlt).toNat = 32
   ·
    obtain ⟨J, hJ⟩ := au (n + aK aA (s.data.toList.drop n))
    have Zm := qh (Nb (n := n) (by rw [ak]; exact hlt) (by rw [jo hlt]; exact Dz h32) hJ jf.out)
    have hJ1 : n + 1 ≤ J := by
     have h1 := iY hlt (show aA (s[n]'hlt) = true from decide_eq_true (Dz h32)) hJ
     omega
    have Ol := qh hJ1
    have hJb : J ≤ s.size := by
     have h1 := qp aA (s.data.toList.drop n)
     rw [List.length_drop, ak] at h1
     omega
    have Om := qh hJb
    have HJJ := qh hJ
    have b1 : (((s[n]'hlt).toNat : Int) == 32) = true := by simp; omega
    have b1' : ((s[n]'hlt).toNat == 32) = true := by simp; omega
    have aiE : IntKind.i64.wrap (((J : Nat) : Int) - 1) = ((J - 1 : Nat) : Int) := by rw [show ((J : Nat) : Int) - 1 = ((J - 1 : Nat) : Int) by omega]; exact IntWalk.i64_in _ (by omega)
    have aiF : IntKind.i64.wrap (((J - 1 : Nat) : Int) + 1) = ((J : Nat) : Int) := by rw [show ((J - 1 : Nat) : Int) + 1 = ((J : Nat) : Int) by omega]; exact IntWalk.i64_in _ (by omega)
    have HOA := qh (show Hid (wr.ownsRow w.heap.size 5 1 (.slice A acc.length c) acc.length (oJ acc)) from qh (by rw [HM.out]; exact HO.out))
    clear h32 hJ
    go_wp2_with fail
    go_loop [5] (fun x => ∃ m : Nat, n ≤ m ∧ m ≤ s.size ∧ x = .int .i64 m ∧ Hid (J = m + aK aA (s.data.toList.drop m))) (fun x => s.size - (intOf x).toNat)
    case atStart => exact ⟨n, Nat.le_refl _, V9.out, rfl, HJJ⟩
    case round =>
     obtain ⟨m, hnm, hm, rfl, HR⟩ := hrel
     by_cases xB : m < s.size
     ·
      have abA := qh xB
      have abB : ((m : Nat) : Int) < ((s.size : Nat) : Int) := by omega
      by_cases h32 : (s[m]'xB).toNat = 32
      ·
       have HG := qh (iY xB (show aA (s[m]'xB) = true from decide_eq_true (Dz h32)) HR.out)
       have b2 : (((s[m]'xB).toNat : Int) == 32) = true := by simp; omega
       clear h32
       go_wp2_with fail
       go_round
       case rel => exact ⟨m + 1, by omega, abA.out, by go_num, HG⟩
       case measure =>
        have := abA.out
        simp [intOf]
        omega
      ·
       have Lp := jw xB (show aA (s[m]'xB) = false from decide_eq_false (fun e => h32 (by rw [e]; rfl))) HR.out
       have b2 : (((s[m]'xB).toNat : Int) == 32) = false := by simp; omega
       subst Lp
       obtain ⟨q, hq⟩ := ae (bI (s[J]'xB))
       have ZO := qh (fun w' => (show Calls Tryz.prog 80 #[.int .u8 ((s[J]'xB).toNat : Nat)] w' fun e w'' => e = .returned (.bool q) ∧ w' = w'' from (jC (s[J]'xB) w').mono fun e w'' ⟨he, hw⟩ => ⟨he.trans (congrArg (fun x => Ending.returned (.bool x)) hq), hw⟩))
       by_cases hM0 : 0 < M
       ·
        obtain ⟨Zn, a, hacc⟩ : ∃ Zn a, acc = Zn ++ [a] := by
         have hne : acc ≠ [] := by intro e; rw [e] at hM; simp at hM; omega
         exact ⟨acc.dropLast, acc.getLast hne, (List.dropLast_concat_getLast hne).symm⟩
        obtain ⟨ad, hA, -, hcell⟩ := (Reads.uq HO.out).2 hM0
        subst hA
        have hl0 : Zn.length = M - 1 := by have h := hM; rw [hacc] at h; simp at h; omega
        have fcl : wr.cell? (ad.add (M - 1)) = some (.int .u8 (a.toNat : Nat)) := hcell (M - 1) _ (by rw [hacc]; unfold oJ; simp [← hl0])
        have hM1 : IntKind.i64.wrap (((M : Nat) : Int) - 1) = ((M - 1 : Nat) : Int) := by rw [show ((M : Nat) : Int) - 1 = ((M - 1 : Nat) : Int) by omega]; exact IntWalk.i64_in _ (by have := HN.out; omega)
        have hM2 : M - 1 < M := by omega
        have hM3 : (0 : Int) < ((M : Nat) : Int) := by omega
        have hM4 : ((M - 1 : Nat) : Int) < ((M : Nat) : Int) := by omega
        have hM5 : (0 : Int) ≤ ((M - 1 : Nat) : Int) := by omega
        have HK := qh (show eU acc.getLast? (s.data.toList.drop J) = ((bI a || decide (a = 35)) && q) by rw [hacc, QH (by rw [ak]; exact xB), jo xB, hq])
        obtain ⟨d, hd⟩ := ae (bI a)
        have HDA := qh (fun w' => (show Calls Tryz.prog 80 #[.int .u8 (a.toNat : Nat)] w' fun e w'' => e = .returned (.bool d) ∧ w' = w'' from (jC a w').mono fun e w'' ⟨he, hw⟩ => ⟨he.trans (congrArg (fun x => Ending.returned (.bool x)) hd), hw⟩))
        rw [hd] at HK
        clear hcell hl0 hacc hd hq h32
        cases d
        ·
         by_cases he : a = 35
         ·
          have be : ((a.toNat : Int) == 35) = true := by rw [he]; rfl
          have be' : (a.toNat == 35) = true := by rw [he]; rfl
          rw [decide_eq_true he] at HK
          clear he
          cases q
          ·
           have LX := qh (show eU acc.getLast? (s.data.toList.drop J) = false from HK.out)
           have HT2 := qh (uZ (LX.out) Zm.out)
           go_wp2_with (first | (go_at_call 80; (with_reducible refine (HDA.out _).mono ?_); rintro e w1 ⟨rfl, rfl⟩) | (go_at_call 80; (with_reducible refine (ZO.out _).mono ?_); rintro e w1 ⟨rfl, rfl⟩))
           go_roundw
           case rel => exact ⟨J, acc, _, c, rfl, by rw [HM.out], Om, qh (by have := BI.out; have := Ol.out; omega), HOA.out, HT2, hbr⟩
           case measure =>
            have := Ol.out
            have := Om.out
            simp [intOf]
            omega
          ·
           have HKY := qh (show eU acc.getLast? (s.data.toList.drop J) = true from HK.out)
           have HT2 := qh (FU HKY.out Zm.out)
           go_upto_region 11 with (first | (go_at_call 80; (with_reducible refine (HDA.out _).mono ?_); rintro e w1 ⟨rfl, rfl⟩) | (go_at_call 80; (with_reducible refine (ZO.out _).mono ?_); rintro e w1 ⟨rfl, rfl⟩))
           go_wp2_with (at_builtin; refine wpList_append_lies _ rfl _ _ 96 rfl w.heap.size 5 i0 (.int .u8 0) 1 1 Tryz.underlying96 hi0 hz0 hz1 hz2 rfl (by decide) _ _ _ rfl (HO.out.alloc _) ⟨wr.heap.size, 0, none⟩ 1 1 [.int .u8 32] rfl rfl ?d1 ?d2 (by decide) ?d3 ?d4 ?d5 _ rfl ?_)
           case d1 => exact World.news_of_block (af.new wr 5 _)
           case d2 => intro u hu; simp only [List.mem_singleton] at hu; subst hu; rfl
           case d3 => have := HN.out; unfold maxLen; omega
           case d4 => have := HN.out; omega
           case d5 => have := hbr.size; simp; omega
           intro g7 cap w7 ig kC kV ru
           have U0 : Below w.heap.size w w7 := (hbr.alloc hbr.size _).grown kC (by have := hbr.size; simp; omega) (fun k hk => (HO.out.lt k hk).1)
           have PD := qh ig
           have e1 : (acc ++ [(32 : UInt8)]).length = M + 1 := by rw [List.length_append, HM.out]; rfl
           have e2 : oJ (acc ++ [(32 : UInt8)]) = oJ acc ++ [.int .u8 32] := by simp [oJ]
           have Jm := qh (show w7.ownsRow w.heap.size 5 1 (.slice (some ⟨g7, 0, none⟩) (acc ++ [(32 : UInt8)]).length cap) (acc ++ [(32 : UInt8)]).length (oJ (acc ++ [(32 : UInt8)])) by rw [e1, e2]; exact PD.out)
           have E1 := qh e1
           clear ig kC kV ru e1 e2
           go_wp2_with fail
           go_roundw
           case rel => exact ⟨J, acc ++ [32], _, _, rfl, by rw [E1.out], Om, qh (by rw [E1.out]; have := BI.out; have := HM.out; have := Ol.out; omega), Jm, HT2, U0⟩
           case measure =>
            have := Ol.out
            have := Om.out
            simp [intOf]
            omega
         ·
          have be : ((a.toNat : Int) == 35) = false := by
           have h1 : a.toNat ≠ 35 := fun e => he (UInt8.toNat_inj.1 e)
           simp; omega
          have be' : (a.toNat == 35) = false := by
           have h1 : a.toNat ≠ 35 := fun e => he (UInt8.toNat_inj.1 e)
           simp; omega
          rw [decide_eq_false he] at HK
          clear he
          have LX := qh (show eU acc.getLast? (s.data.toList.drop J) = false from HK.out)
          have HT2 := qh (uZ (LX.out) Zm.out)
          go_wp2_with (first | (go_at_call 80; (with_reducible refine (HDA.out _).mono ?_); rintro e w1 ⟨rfl, rfl⟩) | (go_at_call 80; (with_reducible refine (ZO.out _).mono ?_); rintro e w1 ⟨rfl, rfl⟩))
          go_roundw
          case rel => exact ⟨J, acc, _, c, rfl, by rw [HM.out], Om, qh (by have := BI.out; have := Ol.out; omega), HOA.out, HT2, hbr⟩
          case measure =>
           have := Ol.out
           have := Om.out
           simp [intOf]
           omega
        ·
         cases q
         ·
          have LX := qh (show eU acc.getLast? (s.data.toList.drop J) = false from HK.out)
          have HT2 := qh (uZ (LX.out) Zm.out)
          go_wp2_with (first | (go_at_call 80; (with_reducible refine (HDA.out _).mono ?_); rintro e w1 ⟨rfl, rfl⟩) | (go_at_call 80; (with_reducible refine (ZO.out _).mono ?_); rintro e w1 ⟨rfl, rfl⟩))
          go_roundw
          case rel => exact ⟨J, acc, _, c, rfl, by rw [HM.out], Om, qh (by have := BI.out; have := Ol.out; omega), HOA.out, HT2, hbr⟩
          case measure =>
           have := Ol.out
           have := Om.out
           simp [intOf]
           omega
         ·
          have HKY := qh (show eU acc.getLast? (s.data.toList.drop J) = true from HK.out)
          have HT2 := qh (FU HKY.out Zm.out)
          go_upto_region 11 with (first | (go_at_call 80; (with_reducible refine (HDA.out _).mono ?_); rintro e w1 ⟨rfl, rfl⟩) | (go_at_call 80; (with_reducible refine (ZO.out _).mono ?_); rintro e w1 ⟨rfl, rfl⟩))
          go_wp2_with (at_builtin; refine wpList_append_lies _ rfl _ _ 96 rfl w.heap.size 5 i0 (.int .u8 0) 1 1 Tryz.underlying96 hi0 hz0 hz1 hz2 rfl (by decide) _ _ _ rfl (HO.out.alloc _) ⟨wr.heap.size, 0, none⟩ 1 1 [.int .u8 32] rfl rfl ?d1 ?d2 (by decide) ?d3 ?d4 ?d5 _ rfl ?_)
          case d1 => exact World.news_of_block (af.new wr 5 _)
          case d2 => intro u hu; simp only [List.mem_singleton] at hu; subst hu; rfl
          case d3 => have := HN.out; unfold maxLen; omega
          case d4 => have := HN.out; omega
          case d5 => have := hbr.size; simp; omega
          intro g7 cap w7 ig kC kV ru
          have U0 : Below w.heap.size w w7 := (hbr.alloc hbr.size _).grown kC (by have := hbr.size; simp; omega) (fun k hk => (HO.out.lt k hk).1)
          have PD := qh ig
          have e1 : (acc ++ [(32 : UInt8)]).length = M + 1 := by rw [List.length_append, HM.out]; rfl
          have e2 : oJ (acc ++ [(32 : UInt8)]) = oJ acc ++ [.int .u8 32] := by simp [oJ]
          have Jm := qh (show w7.ownsRow w.heap.size 5 1 (.slice (some ⟨g7, 0, none⟩) (acc ++ [(32 : UInt8)]).length cap) (acc ++ [(32 : UInt8)]).length (oJ (acc ++ [(32 : UInt8)])) by rw [e1, e2]; exact PD.out)
          have E1 := qh e1
          clear ig kC kV ru e1 e2
          go_wp2_with fail
          go_roundw
          case rel => exact ⟨J, acc ++ [32], _, _, rfl, by rw [E1.out], Om, qh (by rw [E1.out]; have := BI.out; have := HM.out; have := Ol.out; omega), Jm, HT2, U0⟩
          case measure =>
           have := Ol.out
           have := Om.out
           simp [intOf]
           omega
       ·
        have aeM : M = 0 := by omega
        subst aeM
        have hacc : acc = [] := List.length_eq_zero_iff.1 hM
        have hkn : eU acc.getLast? (s.data.toList.drop J) = false := by rw [hacc]; rfl
        have LX := qh hkn
        clear hacc hkn h32
        have HT2 := qh (uZ (LX.out) Zm.out)
        go_wp2_with (first | (go_at_call 80; (with_reducible refine (ZO.out _).mono ?_); rintro e w1 ⟨rfl, rfl⟩))
        go_roundw
        case rel => exact ⟨J, acc, _, c, rfl, by rw [HM.out], Om, qh (by have := BI.out; have := Ol.out; omega), HOA.out, HT2, hbr⟩
        case measure =>
         have := Ol.out
         have := Om.out
         simp [intOf]
         omega
     ·
      have Lp := kK xB HR.out
      have hms : m = s.size := by omega
      subst Lp
      have hkn : eU acc.getLast? (s.data.toList.drop J) = false := QG (by rw [ak]; exact xB)
      have LX := qh hkn
      have abB : ¬ ((J : Nat) : Int) < ((s.size : Nat) : Int) := by omega
      clear hkn hms
      have HT2 := qh (uZ (LX.out) Zm.out)
      go_wp2_with (fail)
      go_roundw
      case rel => exact ⟨J, acc, _, c, rfl, by rw [HM.out], Om, qh (by have := BI.out; have := Ol.out; omega), HOA.out, HT2, hbr⟩
      case measure =>
       have := Ol.out
       have := Om.out
       simp [intOf]
       omega
   ·
    have HT2 := qh (UZ (n := n) (by rw [ak]; exact hlt) (by rw [jo hlt]; exact fun e => h32 (by rw [e]; rfl)) jf.out)
    rw [jo hlt] at HT2
    have b1 : (((s[n]'hlt).toNat : Int) == 32) = false := by simp; omega
    have b1' : ((s[n]'hlt).toNat == 32) = false := by simp; omega
    clear h32
    go_upto_region 6 with (fail)
    go_wp2_with (at_builtin; refine wpList_append_lies _ rfl _ _ 96 rfl w.heap.size 5 i0 (.int .u8 0) 1 1 Tryz.underlying96 hi0 hz0 hz1 hz2 rfl (by decide) _ _ _ rfl (HO.out.alloc _) ⟨wr.heap.size, 0, none⟩ 1 1 [.int .u8 ((s[n]'hlt).toNat : Nat)] rfl rfl ?d1 ?d2 (by decide) ?d3 ?d4 ?d5 _ rfl ?_)
    case d1 => exact World.news_of_block (af.new wr 5 _)
    case d2 => intro u hu; simp only [List.mem_singleton] at hu; subst hu; rfl
    case d3 => have := HN.out; unfold maxLen; omega
    case d4 => have := HN.out; omega
    case d5 => have := hbr.size; simp; omega
    intro g7 cap w7 ig kC kV ru
    have U0 : Below w.heap.size w w7 := (hbr.alloc hbr.size _).grown kC (by have := hbr.size; simp; omega) (fun k hk => (HO.out.lt k hk).1)
    have PD := qh ig
    have e1 : (acc ++ [s[n]'hlt]).length = M + 1 := by rw [List.length_append, HM.out]; rfl
    have e2 : oJ (acc ++ [s[n]'hlt]) = oJ acc ++ [.int .u8 ((s[n]'hlt).toNat : Nat)] := by simp [oJ]
    have Jm := qh (show w7.ownsRow w.heap.size 5 1 (.slice (some ⟨g7, 0, none⟩) (acc ++ [s[n]'hlt]).length cap) (acc ++ [s[n]'hlt]).length (oJ (acc ++ [s[n]'hlt])) by rw [e1, e2]; exact PD.out)
    have E1 := qh e1
    clear ig kC kV ru e1 e2
    go_wp2_with fail
    go_roundw
    case rel => exact ⟨n + 1, acc ++ [s[n]'hlt], _, _, by go_num, by rw [E1.out], fO, qh (by rw [E1.out]; have := BI.out; have := HM.out; omega), Jm, HT2, U0⟩
    case measure =>
     have := fO.out
     simp [intOf]
     omega
  ·
   have hns : n = s.size := by have := V9.out; omega
   have HTE := qh (show T = acc by rw [jf.out, List.drop_eq_nil_of_le (by rw [ak]; omega), nM, List.append_nil])
   have GG : ¬ ((n : Nat) : Int) < ((s.size : Nat) : Int) := by omega
   have kc : (convert 96 9 (.slice A acc.length c)).run Tryz.prog wr = .ok (.string (tb acc)) wr := by
    rcases HO.out.2 with ⟨h0, h1⟩ | ⟨g', cap, cur, e0, e1, e2, e3⟩
    ·
     injection h0 with hA hl hc
     subst hA
     have hn : acc = [] := List.length_eq_zero_iff.1 hl
     subst hn
     exact run_convert_bytes_nil wr 96 5 Tryz.underlying96 Tryz.underlying5 _ _ _ Tryz.underlying9
    ·
     injection e0 with hA hl hc
     subst hA
     have h1 := run_convert_bytes_arg (P := Tryz.prog) wr 96 5 Tryz.underlying96 Tryz.underlying5 g' 0 acc.length c (acc.map (fun x => (x.toNat : Int))) (by simp) (fun j hj => by
      obtain ⟨ad, hA, -, hcell⟩ := (Reads.uq HO.out).2 (by omega)
      injection hA with hA
      subst hA
      have h2 := hcell j (.int .u8 ((acc.map (fun x => (x.toNat : Int))).getD j 0)) (by unfold oJ; simp [List.getD, hj])
      have e : (⟨g', 0, none⟩ : Addr).add j = ⟨g', 0 + j, none⟩ := by unfold Addr.add; split <;> simp_all
      rw [e] at h2
      exact h2) _ Tryz.underlying9
     rw [h1]
     congr 2
     unfold tb
     refine ByteArray.ext (Array.toList_inj.1 ?_)
     rw [strOfNums_data, List.map_map]
     conv => rhs; rw [← List.map_id acc]
     refine List.map_congr_left (fun x _ => ?_)
     simp
   clear hns
   go_wp2_with fail
   go_ret
   exact ⟨by rw [HTE.out]; rfl, hbr⟩
theorem xC : ∀ (f : Nat) (out l : List UInt8), (qF f out l).length ≤ out.length + l.length
 | 0, out, l => by simp [qF]
 | f + 1, out, [] => by simp [qF]
 | f + 1, out, c :: r => by
  rw [qF]
  split
  ·
   have h1 := xC f (out ++ [c]) r
   simp at h1 ⊢
   omega
  ·
   obtain ⟨o2, ho2⟩ := ae ((if Nz out (r.dropWhile aA) then out ++ [32] else out))
   have h3 : o2.length ≤ out.length + 1 := by rw [← ho2]; split <;> simp
   rw [ho2]
   have h1 := xC f o2 (r.dropWhile aA)
   have h2 := qY r
   simp only [List.length_cons]
   omega
theorem QJ (l : List UInt8) : (iE l).length ≤ l.length := by
 have h := xC (l.length + 1) [] l
 simpa [iE] using h
theorem DC (g : Nat) (s : ByteArray) (i : Nat) (w : World) (hp : aP w g s i) (hm : TM w g) (t : Tok) (r : List Tok) (hL : wordsOf s.data.toList i = t :: r) :
  Calls Tryz.prog 168 #[.pointer (some ⟨g, 0, none⟩)] w fun e w' => ui w g s (match fQ (if fM t.tx then iE t.tx else t.tx) with
   | some v => .ok [dX v] r
   | none => .err t.at_) e w' := by
 have jD := qh hp
 have HM := qh hm
 have hlt := hp.b.lt
 have hwt := dJ hL
 obtain ⟨ea, et, eh⟩ := jX hwt.1
 obtain ⟨tl, htx, h32⟩ := nX hwt.1
 obtain ⟨c0, hc0⟩ := ae (s.data.toList.getD t.at_ 0)
 rw [hc0] at htx
 have wV := dW hwt.1
 rw [ak] at wV
 have hs4 := hp.s
 have hus : t.tx.length ≤ 4000 := by omega
 have Hu := qh (show r = wordsOf s.data.toList (aO s i + (aH s i).length) by rw [ea, et]; exact hwt.2)
 have Ie := qh (show t.at_ = aO s i from ea.symm)
 have c2 : w.cell? ⟨g, 2, none⟩ = some (.string (tb t.tx)) := by have h := hp.b.cell 2; rw [et] at h; exact h
 have hbr : fM t.tx = decide (c0 = 123) := by unfold fM; rw [htx]
 obtain ⟨R, hR⟩ : ∃ R, (match fQ (if fM t.tx then iE t.tx else t.tx) with
   | some v => jO.ok [dX v] r
   | none => jO.err t.at_) = R := ⟨_, rfl⟩
 have QK := qh hR
 rw [hR]
 obtain ⟨v, hv⟩ := ae (tb t.tx)
 have XK := qh hv
 have hu0 : 0 < v.size := by rw [← hv, dm, htx]; simp
 have hu1 : v[0] = c0 := by
  subst hv
  have h1 : (tb t.tx).data.toList[0]? = some c0 := by rw [bT, htx]; rfl
  have h2 : (tb t.tx).data.toList[0]? = some (tb t.tx)[0] := by
   rw [List.getElem?_eq_getElem (by rw [ak]; exact hu0)]; rfl
  rw [h2] at h1
  injection h1
 rw [hv] at c2
 have vK := qh (show tb (aH s i) = v by rw [et]; exact hv)
 clear hR hv ea et eh htx h32 hc0 hwt wV hL hp hm
 by_cases hb : c0 = 123
 ·
  have bb : ((v[0].toNat : Int) == 123) = true := by rw [hu1, hb]; rfl
  have bb' : (v[0].toNat == 123) = true := by rw [hu1, hb]; rfl
  rw [hbr, decide_eq_true hb, if_pos rfl] at QK
  clear hbr hb hu1
  go_enter Tryz.func168, Tryz.ntmps168
  go_upto_region 1 with (fail)
  obtain ⟨W, hW, hkW, BR, hszW, hWs, -⟩ := dY g w
  have iZ := qh (show aP W g s i by rw [hW]; exact jD.out.alloc _)
  have oZ := qh (HM.out.kp hkW)
  have fV := qh BR
  rw [← hW]
  clear hW BR
  have d2 : W.cell? ⟨g, 2, none⟩ = some (.string v) := by have h := iZ.out.b.cell 2; rw [show tb (aH s i) = v from vK.out] at h; exact h
  go_wp2_with fail
  refine (QI v W (by rw [← XK.out, dm]; omega)).mono ?_
  rintro e w2 ⟨rfl, hb2⟩
  have hvd : v.data.toList = t.tx := by rw [← XK.out, bT]
  rw [hvd]
  have HW2 := qh (Kp.of (g := g) hb2)
  go_wp2_with fail
  have HP2 := qh (iZ.out.below hb2)
  have mG := qh (hkW.trans (Kp.of hb2))
  have iC := qh (fV.out.below hb2 fV.out.lt)
  clear hb2
  have XV := qh (HM.out.kp mG.out).tab
  refine (BH (tb (iE t.tx)) w2 (by rw [dm]; have := QJ t.tx; omega) XV.out.1 XV.out.2).mono ?_
  rw [bT]
  rintro e w3 ⟨XW, hb3⟩
  obtain ⟨x, A, c, f, rfl, hrd, hA, hxl, hxs, q1, q2⟩ := XW.ex
  have JQ : x.l.length ≤ maxLen := by unfold maxLen; omega
  have JR : x.s.size ≤ maxLen := by unfold maxLen; omega
  have oI := qh (And.intro hrd hA)
  have HQ := qh (And.intro q1 q2)
  have hsz3 := hb3.size
  have Eo := qh (HP2.out.below hb3)
  have JS := qh (iC.out.below hb3 iC.out.lt)
  have FP := qh (mG.out.trans (Kp.of hb3))
  have zH : W.heap.size ≤ w2.heap.size := HW2.out.size
  clear XW hrd hA q1 q2 hxl hxs hb3
  by_cases hf : f = 0
  ·
   have HV := qh (HQ.out.1 hf)
   have hrf := vP HV.out.1 HV.out.2
   have wG := qh hrf
   subst hf
   clear hrf
   go_upto_region 5 with (fail)
   obtain ⟨W3, hW3⟩ := au (w3.alloc (.cells #[.int .i64 x.k, .int .i64 x.n, .string x.s, .slice A x.l.length c] 24 (0, 0)))
   have Ik := qh (show aP W3 g s i by rw [hW3]; exact Eo.out.alloc _)
   have qO := qh (show ZB W3 w.heap.size by rw [hW3]; exact JS.out.alloc _)
   have HBV := qh (show af W3 w3.heap.size 24 #[.int .i64 x.k, .int .i64 x.n, .string x.s, .slice A x.l.length c] by rw [hW3]; exact af.new w3 _ _)
   have qg := qh (show Kp g w W3 by rw [hW3]; exact FP.out.alloc _)
   have CZ : W3.heap.size = w3.heap.size + 1 := by rw [hW3]; simp
   have XX := qh (show Reads W3 W3.heap.size 1 A x.l.length (dS .i64 x.l) by
    have h1 : Below w3.heap.size w3 W3 := by rw [hW3]; exact (Below.refl _ _).alloc (Nat.le_refl _) _
    exact (oI.out.1.below h1).more h1.size)
   rw [← hW3]
   clear hW3
   have aaC : g < w3.heap.size := Eo.out.b.lt
   go_wp2_with (go_at_call 30; (with_reducible refine (next_any g s i _ Ik.out).mono ?_); rintro e w4 ⟨rfl, wu, hk4⟩; have vU := qh wu; have iK := qh hk4; have Oi := HBV.out.kp hk4 (by omega); have FC := qO.out.kp hk4 (by omega); have rf : w4.cell? ⟨w3.heap.size, 0, none⟩ = some (.int .i64 x.k) := Oi.cell 0; have ug : w4.cell? ⟨w3.heap.size, 1, none⟩ = some (.int .i64 x.n) := Oi.cell 1; have uh : w4.cell? ⟨w3.heap.size, 2, none⟩ = some (.string x.s) := Oi.cell 2; have sH : w4.cell? ⟨w3.heap.size, 3, none⟩ = some (.slice A x.l.length c) := Oi.cell 3; clear wu hk4)
   refine (sQ x.k x.n x.s A x.l.length c w4).mono ?_
   rintro e w5 ⟨rfl, hb5⟩
   have B5 := FC.below hb5 FC.lt
   have PY := qh (lD (q := fun b => w3.heap.size ≤ b + w3.heap.size ∧ b ≠ g) (c := c) XX.out (fun ad e => ⟨by omega, by have := oI.out.2 ad e; omega⟩) JQ JR)
   have tX := qh (lD (q := fun b => W.heap.size ≤ b) (c := c) XX.out (fun ad e => by have := oI.out.2 ad e; omega) JQ JR)
   have Qo := qh (((tX.out.N7 iK.out (fun k hk => by omega)).keep (dG.of hb5)).up hb5.size)
   obtain ⟨aQ, eX, aS, eY, aT, fD, aU, fE, aY, jR, aZ, jS, bu, jT, bz, jU⟩ := af.z8 B5
   go_wp2_with fail
   refine bodyPost_ret (v := .agg #[.int .i64 1, .int .i64 0, .string ⟨#[]⟩, .int .i64 x.k, .int .i64 x.n, .string x.s, .slice A x.l.length c, .slice none 0 0]) (by simp [results, Tryz.results168, go_sem, aQ, aS, aT, aU, aY, aZ, bu, bz]) rfl ?_
   have hend : R = .ok [dX x] (wordsOf s.data.toList (aO s i + (aH s i).length)) := by rw [← QK.out, wG.out, Hu.out]
   rw [hend]
   exact rC (L := W.heap.size) (x := dX x) (A' := none) (c' := 0) Qo.out hWs hlt (vU.out.below hb5) ((qg.out.trans iK.out).trans (Kp.of hb5))
  ·
   have hbf : (f == 0) = false := by simp [hf]
   have rD := qh (lJ (HQ.out.2 hf).2.2)
   have HQF := qh (HQ.out.2 hf).1
   clear hf
   have hend : R = .err (aO s i) := by rw [← QK.out, rD.out, Ie.out]
   go_wp2_with (go_at_call 32; (with_reducible refine (iI g s i _ (Eo.out.alloc _)).mono ?_); rintro e w4 ⟨rfl, rfl⟩)
   refine ⟨rfl, ?_⟩
   rw [hend]
   exact ⟨rfl, FP.out.alloc _⟩
 ·
  have bb : ((v[0].toNat : Int) == 123) = false := by
   have h1 : v[0].toNat ≠ 123 := fun e => hb (by rw [← hu1]; exact UInt8.toNat_inj.1 e)
   simp; omega
  have bb' : (v[0].toNat == 123) = false := by
   have h1 : v[0].toNat ≠ 123 := fun e => hb (by rw [← hu1]; exact UInt8.toNat_inj.1 e)
   simp; omega
  rw [hbr, decide_eq_false hb, if_neg (by decide)] at QK
  clear hbr hb hu1
  go_enter Tryz.func168, Tryz.ntmps168
  go_upto_region 1 with (fail)
  obtain ⟨W, hW, hkW, BR, hszW, hWs, -⟩ := dY g w
  have iZ := qh (show aP W g s i by rw [hW]; exact jD.out.alloc _)
  have oZ := qh (HM.out.kp hkW)
  have fV := qh BR
  rw [← hW]
  clear hW BR
  have d2 : W.cell? ⟨g, 2, none⟩ = some (.string v) := by have h := iZ.out.b.cell 2; rw [show tb (aH s i) = v from vK.out] at h; exact h
  obtain ⟨w2, hw2⟩ := au (W)
  have hb2 : Below W.heap.size W w2 := by rw [hw2]; exact Below.refl _ _
  have HW2 := qh (Kp.of (g := g) hb2)
  go_wp2_with fail
  rw [← hw2]
  clear hw2
  have HP2 := qh (iZ.out.below hb2)
  have mG := qh (hkW.trans (Kp.of hb2))
  have iC := qh (fV.out.below hb2 fV.out.lt)
  clear hb2
  have XV := qh (HM.out.kp mG.out).tab
  have hvd : v.data.toList = t.tx := by rw [← XK.out, bT]
  have Zo := BH v w2 (by rw [← XK.out, dm]; omega) XV.out.1 XV.out.2
  rw [hvd] at Zo
  refine Zo.mono ?_
  clear Zo hvd
  rintro e w3 ⟨XW, hb3⟩
  obtain ⟨x, A, c, f, rfl, hrd, hA, hxl, hxs, q1, q2⟩ := XW.ex
  have JQ : x.l.length ≤ maxLen := by unfold maxLen; omega
  have JR : x.s.size ≤ maxLen := by unfold maxLen; omega
  have oI := qh (And.intro hrd hA)
  have HQ := qh (And.intro q1 q2)
  have hsz3 := hb3.size
  have Eo := qh (HP2.out.below hb3)
  have JS := qh (iC.out.below hb3 iC.out.lt)
  have FP := qh (mG.out.trans (Kp.of hb3))
  have zH : W.heap.size ≤ w2.heap.size := HW2.out.size
  clear XW hrd hA q1 q2 hxl hxs hb3
  by_cases hf : f = 0
  ·
   have HV := qh (HQ.out.1 hf)
   have hrf := vP HV.out.1 HV.out.2
   have wG := qh hrf
   subst hf
   clear hrf
   go_upto_region 5 with (fail)
   obtain ⟨W3, hW3⟩ := au (w3.alloc (.cells #[.int .i64 x.k, .int .i64 x.n, .string x.s, .slice A x.l.length c] 24 (0, 0)))
   have Ik := qh (show aP W3 g s i by rw [hW3]; exact Eo.out.alloc _)
   have qO := qh (show ZB W3 w.heap.size by rw [hW3]; exact JS.out.alloc _)
   have HBV := qh (show af W3 w3.heap.size 24 #[.int .i64 x.k, .int .i64 x.n, .string x.s, .slice A x.l.length c] by rw [hW3]; exact af.new w3 _ _)
   have qg := qh (show Kp g w W3 by rw [hW3]; exact FP.out.alloc _)
   have CZ : W3.heap.size = w3.heap.size + 1 := by rw [hW3]; simp
   have XX := qh (show Reads W3 W3.heap.size 1 A x.l.length (dS .i64 x.l) by
    have h1 : Below w3.heap.size w3 W3 := by rw [hW3]; exact (Below.refl _ _).alloc (Nat.le_refl _) _
    exact (oI.out.1.below h1).more h1.size)
   rw [← hW3]
   clear hW3
   have aaC : g < w3.heap.size := Eo.out.b.lt
   go_wp2_with (go_at_call 30; (with_reducible refine (next_any g s i _ Ik.out).mono ?_); rintro e w4 ⟨rfl, wu, hk4⟩; have vU := qh wu; have iK := qh hk4; have Oi := HBV.out.kp hk4 (by omega); have FC := qO.out.kp hk4 (by omega); have rf : w4.cell? ⟨w3.heap.size, 0, none⟩ = some (.int .i64 x.k) := Oi.cell 0; have ug : w4.cell? ⟨w3.heap.size, 1, none⟩ = some (.int .i64 x.n) := Oi.cell 1; have uh : w4.cell? ⟨w3.heap.size, 2, none⟩ = some (.string x.s) := Oi.cell 2; have sH : w4.cell? ⟨w3.heap.size, 3, none⟩ = some (.slice A x.l.length c) := Oi.cell 3; clear wu hk4)
   refine (sQ x.k x.n x.s A x.l.length c w4).mono ?_
   rintro e w5 ⟨rfl, hb5⟩
   have B5 := FC.below hb5 FC.lt
   have PY := qh (lD (q := fun b => w3.heap.size ≤ b + w3.heap.size ∧ b ≠ g) (c := c) XX.out (fun ad e => ⟨by omega, by have := oI.out.2 ad e; omega⟩) JQ JR)
   have tX := qh (lD (q := fun b => W.heap.size ≤ b) (c := c) XX.out (fun ad e => by have := oI.out.2 ad e; omega) JQ JR)
   have Qo := qh (((tX.out.N7 iK.out (fun k hk => by omega)).keep (dG.of hb5)).up hb5.size)
   obtain ⟨aQ, eX, aS, eY, aT, fD, aU, fE, aY, jR, aZ, jS, bu, jT, bz, jU⟩ := af.z8 B5
   go_wp2_with fail
   refine bodyPost_ret (v := .agg #[.int .i64 1, .int .i64 0, .string ⟨#[]⟩, .int .i64 x.k, .int .i64 x.n, .string x.s, .slice A x.l.length c, .slice none 0 0]) (by simp [results, Tryz.results168, go_sem, aQ, aS, aT, aU, aY, aZ, bu, bz]) rfl ?_
   have hend : R = .ok [dX x] (wordsOf s.data.toList (aO s i + (aH s i).length)) := by rw [← QK.out, wG.out, Hu.out]
   rw [hend]
   exact rC (L := W.heap.size) (x := dX x) (A' := none) (c' := 0) Qo.out hWs hlt (vU.out.below hb5) ((qg.out.trans iK.out).trans (Kp.of hb5))
  ·
   have hbf : (f == 0) = false := by simp [hf]
   have rD := qh (lJ (HQ.out.2 hf).2.2)
   have HQF := qh (HQ.out.2 hf).1
   clear hf
   have hend : R = .err (aO s i) := by rw [← QK.out, rD.out, Ie.out]
   go_wp2_with (go_at_call 32; (with_reducible refine (iI g s i _ (Eo.out.alloc _)).mono ?_); rintro e w4 ⟨rfl, rfl⟩)
   refine ⟨rfl, ?_⟩
   rw [hend]
   exact ⟨rfl, FP.out.alloc _⟩
end Go.Proofs.YtobanldeicclmaaGreatDoor
