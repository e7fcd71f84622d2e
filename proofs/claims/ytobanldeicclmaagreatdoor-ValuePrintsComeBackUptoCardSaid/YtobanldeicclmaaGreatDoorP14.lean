/- The walk of arguments. · The walks of overOf, opOf, loop. -/
import Derived.Test.YtobanldeicclmaaGreatDoorP13
import Derived.Test.YtobanldeicclmaaGreatDoorP2
namespace Go.Proofs.YtobanldeicclmaaGreatDoor
open Go.RowKit Vtx
attribute [local go_sem ↓] Go.wp_at_zero Go.wp_at_succ
/-- what arguments does -/
def ARet (w : World) (g : Nat) (s : ByteArray) (r : Res) (e : Ending) (w' : World) : Prop := match r with
  | .ok es l' => ∃ i css A c, l' = wordsOf s.data.toList i ∧ e = .returned (.slice A es.length c) ∧ ExsIn w' (fun b => w.heap.size ≤ b) es css ∧ w'.ownsRow w.heap.size 27 8 (.slice A es.length c) es.length css.flatten ∧ es.length ≤ 4001 ∧ PaAt w' g s i ∧ Kp g w w'
  | .err k => e = stopE k ∧ Kp g w w'
theorem own_base {w : World} {B B' size n : Nat} {e : TypeId} {v : Value} {xs : List Value} (h : w.ownsRow B e size v n xs) (hB : B' ≤ B) : w.ownsRow B' e size v n xs := by
  refine ⟨h.1, h.2.imp id ?_⟩
  rintro ⟨g', cap, cur, e0, e1, e2⟩
  exact ⟨g', cap, cur, e0, Nat.le_trans hB e1, e2⟩
set_option maxHeartbeats 4000000 in
set_option maxRecDepth 100000 in
theorem arguments_any (g : Nat) (s : ByteArray) (i : Nat) (w : World) (h : PaAt w g s i) (hm : TM w g) (o : Int) (L : List Tok) (hL : wordsOf s.data.toList i = L) (hP : ∀ L', L'.length ≤ L.length → PSpec 31 .or s L') :
    Calls Tryz.prog 185 #[.pointer (some ⟨g, 0, none⟩), .int .i64 o] w fun e w' => ARet w g s (Pz s.data.toList.length (.args o) [] L) e w' := by
  have hlt := h.b.lt
  have hargs : Pz s.data.toList.length (.args o) [] L = (Pz s.data.toList.length .or [] L).bind fun es l1 => Pz s.data.toList.length (.argsL o) es l1 := by rw [Pz_eq]; rfl
  rw [hargs]
  have H1 := Lib.hid (hP L (Nat.le_refl _) g i w h hm hL)
  have HM := Lib.hid hm
  obtain ⟨r, hr⟩ : ∃ r, Pz s.data.toList.length .or [] L = r := ⟨_, rfl⟩
  rw [hr] at H1 ⊢
  have HR := Lib.hid hr
  have HPA := Lib.hid h
  obtain ⟨lo, hlo⟩ : ∃ lo, (arOf o).1 = lo := ⟨_, rfl⟩
  obtain ⟨hi, hhi⟩ : ∃ hi, (arOf o).2 = hi := ⟨_, rfl⟩
  have HLO := Lib.hid (And.intro hlo hhi)
  have har : arV o = .tuple #[.int .i64 (lo : Nat), .int .i64 (hi : Nat)] := by unfold arV; rw [hlo, hhi]
  have HAR := Lib.hid (fun w' => har ▸ arity_any o w')
  clear hr h hm hargs hlo hhi har
  go_enter Tryz.func185, Tryz.ntmps185
  go_wp2_with (go_at_call 97; (with_reducible refine (HAR.out _).mono ?_); rintro e w3 ⟨rfl, rfl⟩)
  refine H1.out.mono ?_
  cases r with
  | err k =>
    rintro e w1 ⟨rfl, hk1⟩
    go_wp2_with fail
    exact ⟨rfl, rfl, hk1⟩
  | ok es l1 =>
    rintro e w1 ⟨x, i1, cs1, rfl, rfl, rfl, hx1, hp1, hk1⟩
    have HX1 := Lib.hid hx1
    obtain ⟨hn1, hs1, hl1, ha1, hxx1, hrr1, hii1⟩ := hx1
    rename_i A1 c1 A2 c2 csi1
    clear hxx1 hrr1 hii1 hn1 hs1 hl1 ha1
    have exa1 : (exCells x A1 c1 A2 c2).toArray = #[.int .i64 x.k, .int .i64 x.op, .string x.nm, .int .i64 x.v.k, .int .i64 x.v.n, .string x.v.s, .slice A1 x.v.l.length c1, .slice A2 x.ar.length c2] := rfl
    rw [exa1]
    clear exa1
    have HP1 := Lib.hid hp1
    have HKP1 := Lib.hid hk1
    have hsw := hk1.size
    clear hp1
    go_wp2_with fail
    obtain ⟨W2, hW2⟩ : ∃ W2, W2 = w1.alloc (.cells #[.int .i64 x.k, .int .i64 x.op, .string x.nm, .int .i64 x.v.k, .int .i64 x.v.n, .string x.v.s, .slice A1 x.v.l.length c1, .slice A2 x.ar.length c2] 27 (0, 0)) := ⟨_, rfl⟩
    have HK2 := Lib.hid (show Kp g w W2 by rw [hW2]; exact hk1.alloc _)
    have HP2 := Lib.hid (show PaAt W2 g s i1 by rw [hW2]; exact HP1.out.alloc _)
    have HO2 := Lib.hid (show W2.ownsRow w1.heap.size 27 8 (.slice (some ⟨w1.heap.size, 0, none⟩) 1 1) 1 (exCells x A1 c1 A2 c2) by rw [hW2]; exact own_new (Blk.new w1 _ _) (Nat.le_refl _) rfl)
    have HX2 := Lib.hid (show ExIn W2 (fun b => w.heap.size ≤ b ∧ b ≠ w1.heap.size) W2.heap.size x (exCells x A1 c1 A2 c2) by
      have h1 := HX1.out.imp (q := fun b => w.heap.size ≤ b ∧ b ≠ w1.heap.size) (fun k hk hl => ⟨hk, by omega⟩)
      rw [hW2]
      exact (h1.keep (Stay.of ((Below.refl _ _).alloc (Nat.le_refl _) _))).up (by simp))
    have hsz2 : W2.heap.size = w1.heap.size + 1 := by rw [hW2]; simp
    rw [← hW2]
    clear hW2 hk1
    obtain ⟨R, hR⟩ : ∃ R, Pz s.data.toList.length (.argsL o) [x] (wordsOf s.data.toList i1) = R := ⟨_, rfl⟩
    have HRR := Lib.hid hR.symm
    have hgoal : ((Res.ok [x] (wordsOf s.data.toList i1)).bind fun es l1 => Pz s.data.toList.length (.argsL o) es l1) = R := hR
    have HG := Lib.hid hgoal
    clear hgoal hR
    go_loopw [7] (fun v wr => ∃ (acc : List Ex) (css : List (List Value)) (A : Option Addr) (c i2 : Nat), v = .slice A acc.length c ∧ Hid (ExsIn wr (fun b => w.heap.size ≤ b ∧ some b ≠ (Value.slice A acc.length c).ownBlock) acc css) ∧ Hid (wr.ownsRow w1.heap.size 27 8 (.slice A acc.length c) acc.length css.flatten) ∧ Hid (w1.heap.size ≤ wr.heap.size) ∧ Hid (PaAt wr g s i2) ∧ Hid (Kp g w wr) ∧ Hid (R = Pz s.data.toList.length (.argsL o) acc (wordsOf s.data.toList i2)) ∧ Hid (acc.length + (wordsOf s.data.toList i2).length ≤ 4001 ∧ (wordsOf s.data.toList i2).length ≤ L.length) ∧ Hid (1 ≤ acc.length)) (fun v _ => 4001 - (match v with
      | .slice _ n _ => n
      | _ => 0))
    case atStart =>
      refine ⟨[x], [exCells x A1 c1 A2 c2], some ⟨w1.heap.size, 0, none⟩, 1, i1, rfl, ?_, ?_, ?_, HP2, HK2, HRR, ?_, Lib.hid (Nat.le_refl _)⟩
      · exact Lib.hid (ExsIn.one (HX2.out.imp (fun k hk _ => ⟨hk.1, fun e => hk.2 (by injection e)⟩)))
      · exact Lib.hid (by simpa using HO2.out)
      · exact Lib.hid (by omega)
      · have h1 := Pz_len HR.out
        have h2 := words_len s.data.toList (s.data.toList.length + 1) i1
        rw [data_len] at h2
        have h3 : (wordsOf s.data.toList i1).length ≤ 4000 := by have := HP1.out.s; unfold wordsOf; rw [data_len]; omega
        exact Lib.hid ⟨by simp; omega, h1⟩
    case round =>
      obtain ⟨acc, css, A, c, i2, rfl, HE, HO, HSZ, HPr, HKr, HRr, HLr, HMr⟩ := hrel
      obtain ⟨b2, hb2⟩ : ∃ b, isW (wordsOf s.data.toList i2) [44] = b := ⟨_, rfl⟩
      have HI2 := Lib.hid (is_any g s i2 wr HPr.out [44] (by decide))
      rw [hb2, show tb [44] = ⟨#[44]⟩ from rfl] at HI2
      have HBW := Lib.hid hb2
      clear hb2
      by_cases hl : acc.length < lo
      · have hli : ((acc.length : Nat) : Int) < ((lo : Nat) : Int) := by omega
        have HCL := Lib.hid (show acc.length < (arOf o).1 by rw [HLO.out.1]; exact hl)
        cases b2
        · have HTK := Lib.hid (take_any g s i2 wr HPr.out [44] (by decide))
          rw [HBW.out, show tb [44] = ⟨#[44]⟩ from rfl] at HTK
          have HTKB := Lib.hid (show Calls Tryz.prog 169 #[.pointer (some ⟨g, 0, none⟩), .string ⟨#[44]⟩] wr fun e w' => e = stopE (curAt s i2) ∧ wr = w' from HTK.out.mono (fun e w' h => by rw [if_neg (by decide)] at h; exact h))
          have hend : R = .err (curAt s i2) := by rw [HRr.out, Pz_eq]; dsimp only [stepP]; rw [if_pos (.inl HCL.out)]; unfold takeF; rw [if_neg (by rw [HBW.out]; decide), place_cur]
          have HEND := Lib.hid hend
          clear hend HTK
          go_wp2_with (go_at_call 169; (with_reducible refine HTKB.out.mono ?_); rintro e w4 ⟨rfl, rfl⟩)
          refine ⟨rfl, ?_⟩
          rw [HG.out, HEND.out]
          exact ⟨rfl, HKr.out⟩
        · clear hl
          have HTK := Lib.hid (take_any g s i2 wr HPr.out [44] (by decide))
          rw [show tb [44] = ⟨#[44]⟩ from rfl] at HTK
          have htl := words_tail HBW.out
          obtain ⟨i3, hi3⟩ : ∃ i3, curAt s i2 + (curTx s i2).length = i3 := ⟨_, rfl⟩
          rw [hi3] at HTK htl
          have HTKA := Lib.hid (show Calls Tryz.prog 169 #[.pointer (some ⟨g, 0, none⟩), .string ⟨#[44]⟩] wr fun e w' => e = .returned (.tuple #[]) ∧ PaAt w' g s i3 ∧ Kp g wr w' from HTK.out.mono (fun e w' h => by rw [HBW.out, if_pos rfl] at h; exact h))
          have HTL := Lib.hid htl
          have HCD := Lib.hid (show acc.length < (arOf o).1 ∨ (isW (wordsOf s.data.toList i2) [44] = true ∧ acc.length < (arOf o).2) from .inl HCL.out)
          clear hi3 htl HTK
          go_wp2_with (first | (go_at_call 169; (with_reducible refine HTKA.out.mono ?_); rintro e w4 ⟨rfl, hp4, hk4⟩; have HP4 := Lib.hid hp4; have HK4 := Lib.hid hk4; clear hp4 hk4))
          have hcall := hP (wordsOf s.data.toList i3) (by have := HTL.out.2; have := HLr.out.2; omega) g i3 _ HP4.out (HM.out.kp (HKr.out.trans HK4.out)) rfl
          obtain ⟨r2, hr2⟩ : ∃ r, Pz s.data.toList.length .or [] (wordsOf s.data.toList i3) = r := ⟨_, rfl⟩
          rw [hr2] at hcall
          refine hcall.mono ?_
          cases r2 with
          | err k =>
            rintro e w5 ⟨rfl, hk5⟩
            have hend : R = .err k := by rw [HRr.out, Pz_eq]; dsimp only [stepP]; rw [if_pos HCD.out]; unfold takeF; rw [if_pos HBW.out, ← HTL.out.1]; dsimp only; rw [hr2]; rfl
            go_wp2_with fail
            refine ⟨rfl, ?_⟩
            rw [HG.out, hend]
            exact ⟨rfl, (HKr.out.trans HK4.out).trans hk5⟩
          | ok es2 l2 =>
            rintro e w5 ⟨y, i4, ycs, rfl, rfl, rfl, hy, hp5, hk5⟩
            have HY := Lib.hid hy
            obtain ⟨hn3, hs3, hl3, ha3, hx3, hr3, hi3⟩ := hy
            rename_i A3 c3 A4 c4 ycs1
            clear hx3 hr3 hi3
            rw [show (exCells y A3 c3 A4 c4).toArray = #[.int .i64 y.k, .int .i64 y.op, .string y.nm, .int .i64 y.v.k, .int .i64 y.v.n, .string y.v.s, .slice A3 y.v.l.length c3, .slice A4 y.ar.length c4] from rfl]
            have hk45 := HK4.out.trans hk5
            have hgW : g < w1.heap.size := by have := HP1.out.b.lt; omega
            have HO5 := Lib.hid (own_kp HO.out hk45 hgW)
            have HK5 := Lib.hid (HKr.out.trans hk45)
            have HK45 := Lib.hid hk45
            have HP5 := Lib.hid hp5
            have hb5 : w1.heap.size ≤ w5.heap.size := Nat.le_trans HSZ.out hk45.size
            obtain ⟨i0, hi0, hz0, hz1, hz2⟩ := info_parts infoX
            have hal : acc.length ≤ 4001 := by have := HLr.out.1; omega
            go_wp2_with (at_builtin; refine wpList_append_lies _ rfl _ _ 25 rfl w1.heap.size 27 i0 (.agg #[.int .i64 0, .int .i64 0, .string ⟨#[]⟩, .int .i64 0, .int .i64 0, .string ⟨#[]⟩, .slice none 0 0, .slice none 0 0]) 8 112 Tryz.underlying25 hi0 hz0 hz1 hz2 rfl (by decide) _ _ _ rfl (HO5.out.alloc _) ⟨w5.heap.size, 0, none⟩ 1 1 [.int .i64 y.k, .int .i64 y.op, .string y.nm, .int .i64 y.v.k, .int .i64 y.v.n, .string y.v.s, .slice A3 y.v.l.length c3, .slice A4 y.ar.length c4] rfl rfl ?d1 ?d2 (by decide) ?d3 ?d4 ?d5 _ rfl ?_)
            case d1 => exact World.news_of_block (Blk.new w5 27 _)
            case d2 => intro u hu; simp only [List.mem_cons, List.not_mem_nil, or_false] at hu; rcases hu with rfl | rfl | rfl | rfl | rfl | rfl | rfl | rfl <;> rfl
            case d3 => unfold maxLen; omega
            case d4 => omega
            case d5 => simp; omega
            intro g7 cap w7 hown7 hg7 hat7 hlt7
            go_wp2_with fail
            go_roundw
            case rel =>
              have hob : ∀ k, (Value.slice A acc.length c).ownBlock = some k → w1.heap.size ≤ k := fun k hk => (HO5.out.lt k hk).1
              have hs7 := hg7.size
              have hgb : w7.heap[g]? = w5.heap[g]? := (hg7.block g (by have := HP5.out.b.lt; simp; omega) (fun e => by have := hob g e.symm; omega)).trans (Below.heap_alloc w5 _ g HP5.out.b.lt)
              refine ⟨acc ++ [y], css ++ [exCells y A3 c3 A4 c4], some ⟨g7, 0, none⟩, cap, i4, by simp, ?_, ?_, ?_, Lib.hid (HP5.out.kp hgb), ?_, ?_, ?_, ?_⟩
              · have h1 := HE.out.imp (q := fun b => (w.heap.size ≤ b ∧ some b ≠ (Value.slice A acc.length c).ownBlock) ∧ some b ≠ some g7) (fun k hk hl => ⟨hk, fun e => by
                  injection e with e
                  rcases hat7 with h | h
                  · exact hk.2 (by rw [h, e])
                  · have := hk45.size
                    try simp at h
                    omega⟩)
                have h2 := (h1.keep (w' := w7) ⟨by have := hk45.size; simp at hs7; omega, fun k hk hl => by
                  have hz := hk45.size
                  rw [hg7.block k (by simp; omega) hk.1.2, Below.heap_alloc w5 _ k (by omega)]
                  exact hk45.block k hl (fun e => by injection e with e; have := hk.1.1; omega)⟩).imp (q := fun b => w.heap.size ≤ b ∧ some b ≠ (Value.slice (some ⟨g7, 0, none⟩) (acc ++ [y]).length cap).ownBlock) (fun k hk _ => ⟨hk.1.1, hk.2⟩)
                have hwo : ∀ k, (Value.slice A acc.length c).ownBlock = some k → k < wr.heap.size := fun k hk => (HO.out.lt k hk).2
                have hz4 := HK4.out.size
                have hz1 := HSZ.out
                have h3 := HY.out.imp (q := fun b => b < w5.heap.size ∧ (w.heap.size ≤ b ∧ some b ≠ (Value.slice (some ⟨g7, 0, none⟩) (acc ++ [y]).length cap).ownBlock) ∧ some b ≠ (Value.slice A acc.length c).ownBlock) (fun k hk hl => ⟨hl, ⟨by omega, fun e => by
                  have e' : k = g7 := by injection e
                  rcases hat7 with h | h
                  · have := hwo g7 h
                    omega
                  · try simp at h
                    omega⟩, fun e => by
                  have := hwo k e.symm
                  omega⟩)
                have h4 := ((h3.keep (w' := w7) ⟨by simp at hs7; omega, fun k hk hl => by
                  rw [hg7.block k (by simp; omega) hk.2.2, Below.heap_alloc w5 _ k hl]⟩).up (B' := w7.heap.size) (by simp at hs7; omega)).imp (q := fun b => w.heap.size ≤ b ∧ some b ≠ (Value.slice (some ⟨g7, 0, none⟩) (acc ++ [y]).length cap).ownBlock) (fun k hk _ => hk.2.1)
                exact Lib.hid (h2.snoc h4)
              · have e1 : (acc ++ [y]).length = acc.length + 1 := by simp
                have e2 : (css ++ [exCells y A3 c3 A4 c4]).flatten = css.flatten ++ exCells y A3 c3 A4 c4 := by simp
                rw [e1, e2]
                exact Lib.hid hown7
              · exact Lib.hid (by simp at hs7; omega)
              · exact Lib.hid ((HK5.out.alloc _).grown hg7 (fun k hk => by
                  have h1 := hob k hk
                  omega))
              · have h1 : R = Pz s.data.toList.length (.argsL o) (acc ++ [y]) (wordsOf s.data.toList i4) := by rw [HRr.out, Pz_eq]; dsimp only [stepP]; rw [if_pos HCD.out]; unfold takeF; rw [if_pos HBW.out, ← HTL.out.1]; dsimp only; rw [hr2]; rfl
                exact Lib.hid h1
              · have h1 := Pz_len hr2
                have h2 := HTL.out.2
                have h3 := HLr.out
                exact Lib.hid ⟨by simp; omega, by omega⟩
              · exact Lib.hid (by simp)
            case measure =>
              have h1 := HLr.out.1
              have h2 := HTL.out.2
              simp
              omega
      · have hli : ¬ ((acc.length : Nat) : Int) < ((lo : Nat) : Int) := by omega
        have HNL := Lib.hid (show ¬ acc.length < (arOf o).1 by rw [HLO.out.1]; exact hl)
        cases b2
        · clear hl
          have hend : R = .ok acc (wordsOf s.data.toList i2) := by rw [HRr.out, Pz_eq]; dsimp only [stepP]; rw [if_neg (fun h => by rcases h with h | h; exact HNL.out h; exact absurd (h.1.symm.trans HBW.out) (by decide))]
          have HEND := Lib.hid hend
          clear hend
          go_wp2_with (go_at_call 84; (with_reducible refine HI2.out.mono ?_); rintro e w3 ⟨rfl, rfl⟩)
          go_ret
          rw [HG.out, HEND.out]
          exact ⟨i2, css, A, c, rfl, by rfl, HE.out.imp (fun k hk _ => hk.1), own_base HO.out (by omega), by have := HLr.out.1; omega, HPr.out, HKr.out⟩
        · by_cases hh : acc.length < hi
          · have hhi : ((acc.length : Nat) : Int) < ((hi : Nat) : Int) := by omega
            have HCH := Lib.hid (show acc.length < (arOf o).2 by rw [HLO.out.2]; exact hh)
            clear hl hh
            have HTK := Lib.hid (take_any g s i2 wr HPr.out [44] (by decide))
            rw [show tb [44] = ⟨#[44]⟩ from rfl] at HTK
            have htl := words_tail HBW.out
            obtain ⟨i3, hi3⟩ : ∃ i3, curAt s i2 + (curTx s i2).length = i3 := ⟨_, rfl⟩
            rw [hi3] at HTK htl
            have HTKA := Lib.hid (show Calls Tryz.prog 169 #[.pointer (some ⟨g, 0, none⟩), .string ⟨#[44]⟩] wr fun e w' => e = .returned (.tuple #[]) ∧ PaAt w' g s i3 ∧ Kp g wr w' from HTK.out.mono (fun e w' h => by rw [HBW.out, if_pos rfl] at h; exact h))
            have HTL := Lib.hid htl
            have HCD := Lib.hid (show acc.length < (arOf o).1 ∨ (isW (wordsOf s.data.toList i2) [44] = true ∧ acc.length < (arOf o).2) from .inr ⟨HBW.out, HCH.out⟩)
            clear hi3 htl HTK
            go_wp2_with (first | (go_at_call 169; (with_reducible refine HTKA.out.mono ?_); rintro e w4 ⟨rfl, hp4, hk4⟩; have HP4 := Lib.hid hp4; have HK4 := Lib.hid hk4; clear hp4 hk4) | (go_at_call 84; (with_reducible refine HI2.out.mono ?_); rintro e w3 ⟨rfl, rfl⟩))
            have hcall := hP (wordsOf s.data.toList i3) (by have := HTL.out.2; have := HLr.out.2; omega) g i3 _ HP4.out (HM.out.kp (HKr.out.trans HK4.out)) rfl
            obtain ⟨r2, hr2⟩ : ∃ r, Pz s.data.toList.length .or [] (wordsOf s.data.toList i3) = r := ⟨_, rfl⟩
            rw [hr2] at hcall
            refine hcall.mono ?_
            cases r2 with
            | err k =>
              rintro e w5 ⟨rfl, hk5⟩
              have hend : R = .err k := by rw [HRr.out, Pz_eq]; dsimp only [stepP]; rw [if_pos HCD.out]; unfold takeF; rw [if_pos HBW.out, ← HTL.out.1]; dsimp only; rw [hr2]; rfl
              go_wp2_with fail
              refine ⟨rfl, ?_⟩
              rw [HG.out, hend]
              exact ⟨rfl, (HKr.out.trans HK4.out).trans hk5⟩
            | ok es2 l2 =>
              rintro e w5 ⟨y, i4, ycs, rfl, rfl, rfl, hy, hp5, hk5⟩
              have HY := Lib.hid hy
              obtain ⟨hn3, hs3, hl3, ha3, hx3, hr3, hi3⟩ := hy
              rename_i A3 c3 A4 c4 ycs1
              clear hx3 hr3 hi3
              rw [show (exCells y A3 c3 A4 c4).toArray = #[.int .i64 y.k, .int .i64 y.op, .string y.nm, .int .i64 y.v.k, .int .i64 y.v.n, .string y.v.s, .slice A3 y.v.l.length c3, .slice A4 y.ar.length c4] from rfl]
              have hk45 := HK4.out.trans hk5
              have hgW : g < w1.heap.size := by have := HP1.out.b.lt; omega
              have HO5 := Lib.hid (own_kp HO.out hk45 hgW)
              have HK5 := Lib.hid (HKr.out.trans hk45)
              have HK45 := Lib.hid hk45
              have HP5 := Lib.hid hp5
              have hb5 : w1.heap.size ≤ w5.heap.size := Nat.le_trans HSZ.out hk45.size
              obtain ⟨i0, hi0, hz0, hz1, hz2⟩ := info_parts infoX
              have hal : acc.length ≤ 4001 := by have := HLr.out.1; omega
              go_wp2_with (at_builtin; refine wpList_append_lies _ rfl _ _ 25 rfl w1.heap.size 27 i0 (.agg #[.int .i64 0, .int .i64 0, .string ⟨#[]⟩, .int .i64 0, .int .i64 0, .string ⟨#[]⟩, .slice none 0 0, .slice none 0 0]) 8 112 Tryz.underlying25 hi0 hz0 hz1 hz2 rfl (by decide) _ _ _ rfl (HO5.out.alloc _) ⟨w5.heap.size, 0, none⟩ 1 1 [.int .i64 y.k, .int .i64 y.op, .string y.nm, .int .i64 y.v.k, .int .i64 y.v.n, .string y.v.s, .slice A3 y.v.l.length c3, .slice A4 y.ar.length c4] rfl rfl ?d1 ?d2 (by decide) ?d3 ?d4 ?d5 _ rfl ?_)
              case d1 => exact World.news_of_block (Blk.new w5 27 _)
              case d2 => intro u hu; simp only [List.mem_cons, List.not_mem_nil, or_false] at hu; rcases hu with rfl | rfl | rfl | rfl | rfl | rfl | rfl | rfl <;> rfl
              case d3 => unfold maxLen; omega
              case d4 => omega
              case d5 => simp; omega
              intro g7 cap w7 hown7 hg7 hat7 hlt7
              go_wp2_with fail
              go_roundw
              case rel =>
                have hob : ∀ k, (Value.slice A acc.length c).ownBlock = some k → w1.heap.size ≤ k := fun k hk => (HO5.out.lt k hk).1
                have hs7 := hg7.size
                have hgb : w7.heap[g]? = w5.heap[g]? := (hg7.block g (by have := HP5.out.b.lt; simp; omega) (fun e => by have := hob g e.symm; omega)).trans (Below.heap_alloc w5 _ g HP5.out.b.lt)
                refine ⟨acc ++ [y], css ++ [exCells y A3 c3 A4 c4], some ⟨g7, 0, none⟩, cap, i4, by simp, ?_, ?_, ?_, Lib.hid (HP5.out.kp hgb), ?_, ?_, ?_, ?_⟩
                · have h1 := HE.out.imp (q := fun b => (w.heap.size ≤ b ∧ some b ≠ (Value.slice A acc.length c).ownBlock) ∧ some b ≠ some g7) (fun k hk hl => ⟨hk, fun e => by
                    injection e with e
                    rcases hat7 with h | h
                    · exact hk.2 (by rw [h, e])
                    · have := hk45.size
                      try simp at h
                      omega⟩)
                  have h2 := (h1.keep (w' := w7) ⟨by have := hk45.size; simp at hs7; omega, fun k hk hl => by
                    have hz := hk45.size
                    rw [hg7.block k (by simp; omega) hk.1.2, Below.heap_alloc w5 _ k (by omega)]
                    exact hk45.block k hl (fun e => by injection e with e; have := hk.1.1; omega)⟩).imp (q := fun b => w.heap.size ≤ b ∧ some b ≠ (Value.slice (some ⟨g7, 0, none⟩) (acc ++ [y]).length cap).ownBlock) (fun k hk _ => ⟨hk.1.1, hk.2⟩)
                  have hwo : ∀ k, (Value.slice A acc.length c).ownBlock = some k → k < wr.heap.size := fun k hk => (HO.out.lt k hk).2
                  have hz4 := HK4.out.size
                  have hz1 := HSZ.out
                  have h3 := HY.out.imp (q := fun b => b < w5.heap.size ∧ (w.heap.size ≤ b ∧ some b ≠ (Value.slice (some ⟨g7, 0, none⟩) (acc ++ [y]).length cap).ownBlock) ∧ some b ≠ (Value.slice A acc.length c).ownBlock) (fun k hk hl => ⟨hl, ⟨by omega, fun e => by
                    have e' : k = g7 := by injection e
                    rcases hat7 with h | h
                    · have := hwo g7 h
                      omega
                    · try simp at h
                      omega⟩, fun e => by
                    have := hwo k e.symm
                    omega⟩)
                  have h4 := ((h3.keep (w' := w7) ⟨by simp at hs7; omega, fun k hk hl => by
                    rw [hg7.block k (by simp; omega) hk.2.2, Below.heap_alloc w5 _ k hl]⟩).up (B' := w7.heap.size) (by simp at hs7; omega)).imp (q := fun b => w.heap.size ≤ b ∧ some b ≠ (Value.slice (some ⟨g7, 0, none⟩) (acc ++ [y]).length cap).ownBlock) (fun k hk _ => hk.2.1)
                  exact Lib.hid (h2.snoc h4)
                · have e1 : (acc ++ [y]).length = acc.length + 1 := by simp
                  have e2 : (css ++ [exCells y A3 c3 A4 c4]).flatten = css.flatten ++ exCells y A3 c3 A4 c4 := by simp
                  rw [e1, e2]
                  exact Lib.hid hown7
                · exact Lib.hid (by simp at hs7; omega)
                · exact Lib.hid ((HK5.out.alloc _).grown hg7 (fun k hk => by
                    have h1 := hob k hk
                    omega))
                · have h1 : R = Pz s.data.toList.length (.argsL o) (acc ++ [y]) (wordsOf s.data.toList i4) := by rw [HRr.out, Pz_eq]; dsimp only [stepP]; rw [if_pos HCD.out]; unfold takeF; rw [if_pos HBW.out, ← HTL.out.1]; dsimp only; rw [hr2]; rfl
                  exact Lib.hid h1
                · have h1 := Pz_len hr2
                  have h2 := HTL.out.2
                  have h3 := HLr.out
                  exact Lib.hid ⟨by simp; omega, by omega⟩
                · exact Lib.hid (by simp)
              case measure =>
                have h1 := HLr.out.1
                have h2 := HTL.out.2
                simp
                omega
          · have hhi : ¬ ((acc.length : Nat) : Int) < ((hi : Nat) : Int) := by omega
            have HNH := Lib.hid (show ¬ acc.length < (arOf o).2 by rw [HLO.out.2]; exact hh)
            clear hl hh
            have hend : R = .ok acc (wordsOf s.data.toList i2) := by rw [HRr.out, Pz_eq]; dsimp only [stepP]; rw [if_neg (fun h => by rcases h with h | h; exact HNL.out h; exact HNH.out h.2)]
            have HEND := Lib.hid hend
            clear hend
            go_wp2_with (go_at_call 84; (with_reducible refine HI2.out.mono ?_); rintro e w3 ⟨rfl, rfl⟩)
            go_ret
            rw [HG.out, HEND.out]
            exact ⟨i2, css, A, c, rfl, by rfl, HE.out.imp (fun k hk _ => hk.1), own_base HO.out (by omega), by have := HLr.out.1; omega, HPr.out, HKr.out⟩
end Go.Proofs.YtobanldeicclmaaGreatDoor
namespace Go.Proofs.YtobanldeicclmaaGreatDoor
open Go.RowKit Vtx
attribute [local go_sem ↓] Go.wp_at_zero Go.wp_at_succ
theorem cur_of {s : ByteArray} {i : Nat} {t : Tok} (h : tokAt s.data.toList i = some t) : curAt s i = t.at_ ∧ curTx s i = t.tx ∧ curTouch s i = t.touch := by unfold curAt curTx curTouch; rw [h]; exact ⟨rfl, rfl, rfl⟩
set_option maxHeartbeats 2000000 in
set_option maxRecDepth 100000 in
theorem overOf_any (x : List UInt8) (w : World) : Calls Tryz.prog 182 #[.string (tb x)] w fun e w' => e = .returned (.int .i64 (overOf x)) ∧ Below w.heap.size w w' := by
  obtain ⟨u, hu⟩ : ∃ u, tb x = u := ⟨_, rfl⟩
  have HU := Lib.hid hu
  rw [hu]
  clear hu
  go_enter Tryz.func182, Tryz.ntmps182
  go_wp2_with fail
  refine (overNames_any w).mono ?_
  rintro en W ⟨ad0, rfl, hL, hbw⟩
  have HL := Lib.hid hL
  clear hL
  go_wp2_with fail
  go_loopw [7, 3, 4] (fun i _ _ wz => ∃ k : Nat, k ≤ 7 ∧ i = .int .i64 k ∧ Hid (∀ j : Nat, 0 < j → j < k → overT' (j : Nat) ≠ x) ∧ wz = W) (fun i _ _ _ => 7 - (intOf i).toNat)
  case atStart => exact ⟨0, Nat.zero_le _, rfl, Lib.hid (fun j h1 h2 => by omega), rfl⟩
  case round =>
    obtain ⟨k, hk, rfl, HNO, rfl⟩ := hrel
    by_cases hlt : k < 7
    · have hlt' : k < oversS.length := hlt
      obtain ⟨ad, had, hb, hcell⟩ := HL.out.2 (by decide)
      injection had with had
      subst had
      have hsk : (strV oversS)[k]? = some (.string (tb (overT' (k : Nat)))) := by
        unfold strV
        rw [List.getElem?_map, List.getElem?_eq_getElem hlt']
        rw [Option.map_some, over_tx k hlt']
      have fc0 := hcell k _ hsk
      obtain ⟨v, hv⟩ : ∃ v, tb (overT' (k : Nat)) = v := ⟨_, rfl⟩
      rw [hv] at fc0
      have HLT := Lib.hid hlt
      have hk0 : (0 : Int) ≤ (k : Nat) := by omega
      have hk1 : (k : Int) < 7 := by omega
      clear hsk hcell hb
      by_cases hp : 0 < k
      · have HP := Lib.hid hp
        have hpi : (0 : Int) < (k : Nat) := by omega
        by_cases he : overT' (k : Nat) = x
        · have bs : (v.toList == u.toList) = true := strEq_true (by rw [← hv, ← HU.out, he])
          have HF := Lib.hid (over_found hp hlt he)
          clear he hv hp
          go_wp2_with fail
          go_ret
          exact ⟨by rw [HF.out]; rfl, hbw⟩
        · have bs : (v.toList == u.toList) = false := strEq_false (fun e => he (tb_inj (by rw [hv, HU.out, e])))
          have HNO2 := Lib.hid (show ∀ j : Nat, 0 < j → j < k + 1 → overT' (j : Nat) ≠ x from fun j h1 h2 => by
            by_cases hj : j = k
            · subst hj; exact he
            · exact HNO.out j h1 (by omega))
          clear he hv hp
          go_wp2_with fail
          go_roundw
          case rel => exact ⟨k + 1, HLT.out, by go_num, HNO2, trivial⟩
          case measure =>
            have := HLT.out
            simp [intOf]
            omega
      · have hpi : ¬ (0 : Int) < (k : Nat) := by omega
        have HK0 := Lib.hid (show k = 0 by omega)
        clear hp hv
        go_wp2_with fail
        go_roundw
        case rel => exact ⟨k + 1, HLT.out, by go_num, Lib.hid (fun j h1 h2 => by have := HK0.out; omega), trivial⟩
        case measure =>
          have := HLT.out
          simp [intOf]
          omega
    · have HF := Lib.hid (over_none (w := x) (fun j h1 h2 => HNO.out j h1 (by omega)))
      clear HNO
      go_wp2_with fail
      go_ret
      exact ⟨by rw [HF.out]; rfl, hbw⟩
set_option maxHeartbeats 2000000 in
set_option maxRecDepth 100000 in
theorem opOf_any (x : List UInt8) (w : World) : Calls Tryz.prog 183 #[.string (tb x)] w fun e w' => e = .returned (.int .i64 (opOf x)) ∧ Below w.heap.size w w' := by
  obtain ⟨u, hu⟩ : ∃ u, tb x = u := ⟨_, rfl⟩
  have HU := Lib.hid hu
  rw [hu]
  clear hu
  go_enter Tryz.func183, Tryz.ntmps183
  go_wp2_with fail
  refine (funs_any w).mono ?_
  rintro en W ⟨ad0, rfl, hL, hbw⟩
  have HL := Lib.hid hL
  have hstart : Below W.heap.size W W := Below.refl _ _
  clear hL
  go_wp2_with fail
  go_loopw [7, 4] (fun i _ wz => ∃ k : Nat, k ≤ 22 ∧ i = .int .i64 k ∧ Hid (∀ d ∈ funsL.take k, d.1.data.toList ≠ x) ∧ Below W.heap.size W wz) (fun i _ _ => 22 - (intOf i).toNat)
  case atStart => exact ⟨0, Nat.zero_le _, rfl, Lib.hid (fun d h => by simp at h), hstart⟩
  case round =>
    obtain ⟨k, hk, rfl, HNO, hbr⟩ := hrel
    have hsr := hbr.size
    by_cases hlt : k < 22
    · have hlt' : k < funsL.length := hlt
      obtain ⟨ad, ci, had, hb, hci, hcell⟩ := (signs_keep HL.out hbr).at_ hlt'
      injection had with had
      subst had
      obtain ⟨d, hed⟩ : ∃ d, funsL[k] = d := ⟨_, rfl⟩
      have HST := Lib.hid (show funsL.take (k + 1) = funsL.take k ++ [d] by rw [List.take_succ_eq_append_getElem hlt', hed])
      have HFD := Lib.hid (show d.1.data.toList = x → opOf x = d.2 from fun h => by rw [← hed]; exact opOf_found hlt' HNO.out (by rw [hed]; exact h))
      rw [hed] at hci
      have HLT := Lib.hid hlt
      obtain ⟨dw, dop⟩ := d
      have hci2 : ci = [.string dw, .int .i64 dop] := hci
      subst hci2
      have fc0 : wr.cell? (ad0.add (k * 2)) = some (.string dw) := hcell 0 _ rfl
      have fc1 : wr.cell? ⟨(ad0.add (k * 2)).block, (ad0.add (k * 2)).off + 1, none⟩ = some (.int .i64 dop) := hcell 1 _ rfl
      have hk0 : (0 : Int) ≤ (k : Nat) := by omega
      have hk1 : (k : Int) < 22 := by omega
      clear hci hcell hed hb hlt'
      by_cases ho : dw.data.toList = x
      · have bo : (dw.toList == u.toList) = true := strEq_true (by rw [← HU.out, ← ho, tb_of])
        have HR := Lib.hid (HFD.out ho)
        clear ho
        go_wp2_with fail
        go_ret
        exact ⟨by rw [HR.out]; rfl, hbw.trans ((hbr.alloc hsr _).mono hbw.size)⟩
      · have bo : (dw.toList == u.toList) = false := strEq_false (fun e => ho (by rw [e, ← HU.out, tb_data]))
        have HNO2 := Lib.hid (show ∀ d ∈ funsL.take (k + 1), d.1.data.toList ≠ x by
          rw [HST.out]
          intro y hy
          rcases List.mem_append.1 hy with h | h
          · exact HNO.out y h
          · rw [List.mem_singleton] at h; rw [h]; exact ho)
        clear ho
        go_wp2_with fail
        go_roundw
        case rel => exact ⟨k + 1, HLT.out, by go_num, HNO2, hbr.alloc hsr _⟩
        case measure =>
          have := HLT.out
          simp [intOf]
          omega
    · have HALL := Lib.hid (show opOf x = 0 from opOf_none (by have h := HNO.out; rwa [List.take_of_length_le (show funsL.length ≤ k by show 22 ≤ k; omega)] at h))
      clear HNO
      go_wp2_with fail
      go_ret
      exact ⟨by rw [HALL.out]; rfl, hbw.trans (hbr.mono hbw.size)⟩
/-- the name of a loop -/
def LRet (w : World) (g : Nat) (s : ByteArray) (i : Nat) (e : Ending) (w' : World) : Prop := match nameAt (wordsOf s.data.toList i) with
  | some x => ∃ i', e = .returned (.string (tb x)) ∧ wordsOf s.data.toList i' = (wordsOf s.data.toList i).tail ∧ PaAt w' g s i' ∧ Kp g w w'
  | none => e = stopE (placeF s.data.toList.length (wordsOf s.data.toList i)) ∧ w = w'
set_option maxHeartbeats 2000000 in
set_option maxRecDepth 100000 in
theorem loop_any (g : Nat) (s : ByteArray) (i : Nat) (w : World) (h : PaAt w g s i) : Calls Tryz.prog 184 #[.pointer (some ⟨g, 0, none⟩)] w fun e w' => LRet w g s i e w' := by
  have HPA := Lib.hid h
  have HW := Lib.hid (wrong_any g s i w h)
  have HN := Lib.hid (next_any g s i w h)
  have c2 : w.cell? ⟨g, 2, none⟩ = some (.string (tb (curTx s i))) := h.b.cell 2
  have c3 : w.cell? ⟨g, 3, none⟩ = some (.bool (curTouch s i)) := h.b.cell 3
  have HPL := Lib.hid (place_cur s i)
  unfold LRet
  rw [HPL.out]
  cases ht : tokAt s.data.toList i with
  | none =>
    have hw := tok_none ht
    have e2 : curTx s i = [] := by unfold curTx; rw [ht]
    rw [e2] at c2
    rw [show nameAt (wordsOf s.data.toList i) = none by rw [hw]; rfl]
    change w.cell? ⟨g, 2, none⟩ = some (.string ⟨#[]⟩) at c2
    clear hw e2 ht h HPA HN
    go_enter Tryz.func184, Tryz.ntmps184
    go_wp2_with (go_at_call 32; (with_reducible refine HW.out.mono ?_); rintro e w1 ⟨rfl, rfl⟩)
    exact ⟨rfl, rfl, rfl⟩
  | some t =>
    obtain ⟨ea, et, eh⟩ := cur_of ht
    obtain ⟨tl, htx, h32⟩ := tok_head ht
    obtain ⟨c0, hc0⟩ : ∃ c, s.data.toList.getD t.at_ 0 = c := ⟨_, rfl⟩
    rw [hc0] at htx
    have hw : wordsOf s.data.toList i = t :: wordsOf s.data.toList (t.at_ + t.tx.length) := by rw [words_eq, ht]
    rw [et] at c2
    rw [eh] at c3
    have hna : nameAt (wordsOf s.data.toList i) = if !t.touch && (lowB c0 && !reservedL.contains t.tx) then some t.tx else none := by
      have hnb : nameB t.tx = (lowB c0 && !reservedL.contains t.tx) := by
        unfold nameB
        congr 1
        rw [htx]
      rw [hw, ← hnb]
      rfl
    rw [hna]
    obtain ⟨u, hu⟩ : ∃ u, tb t.tx = u := ⟨_, rfl⟩
    have hu0 : 0 < u.size := by rw [← hu, tb_size, htx]; simp
    have hu1 : u[0] = c0 := by
      subst hu
      have h1 : (tb t.tx).data.toList[0]? = some c0 := by rw [tb_data, htx]; rfl
      have h2 : (tb t.tx).data.toList[0]? = some (tb t.tx)[0] := by
        rw [List.getElem?_eq_getElem (by rw [data_len]; exact hu0)]; rfl
      rw [h2] at h1
      injection h1
    have hne : (u.toList == (⟨#[]⟩ : ByteArray).toList) = false := strEq_false (fun e => by rw [e] at hu0; exact absurd hu0 (by decide))
    have hem : u.toList.isEmpty = false := by
      cases h : u.toList.isEmpty with
      | false => rfl
      | true => 
        have h1 : u.toList = [] := List.isEmpty_iff.1 h
        have h2 : (u.toList == (⟨#[]⟩ : ByteArray).toList) = true := by rw [h1]; simp
        rw [hne] at h2; cases h2
    have HLW := Lib.hid (show ∀ w', Calls Tryz.prog 78 #[.int .u8 (u[0].toNat : Nat)] w' fun e w'' => e = .returned (.bool (lowB c0)) ∧ w' = w'' from fun w' => by rw [hu1]; exact isLower_any c0 w')
    have HRV := Lib.hid (show ∀ w', Calls Tryz.prog 100 #[.string u] w' fun e w'' => e = .returned (.bool (reservedL.contains t.tx)) ∧ w' = w'' from fun w' => by
      have h1 := isReserved_any u w'
      rwa [show u.data.toList = t.tx from by rw [← hu, tb_data]] at h1)
    have HU := Lib.hid hu
    have HNX := Lib.hid (show wordsOf s.data.toList (curAt s i + (curTx s i).length) = (wordsOf s.data.toList i).tail by rw [ea, et, hw]; rfl)
    rw [hu] at c2
    obtain ⟨tt, htt⟩ : ∃ b, t.touch = b := ⟨_, rfl⟩
    obtain ⟨bl, hbl⟩ : ∃ b, lowB c0 = b := ⟨_, rfl⟩
    obtain ⟨br, hbr⟩ : ∃ b, reservedL.contains t.tx = b := ⟨_, rfl⟩
    rw [htt] at c3
    rw [htt, hbl, hbr]
    rw [hbl] at HLW
    rw [hbr] at HRV
    clear hu hu1 htt hbl hbr hna hw htx h32 hc0 ea et eh ht h
    cases tt
    · cases bl
      · go_enter Tryz.func184, Tryz.ntmps184
        go_wp2_with (first | (go_at_call 32; (with_reducible refine HW.out.mono ?_); rintro e w1 ⟨rfl, rfl⟩) | (go_at_call 78; (with_reducible refine (HLW.out _).mono ?_); rintro e w1 ⟨rfl, rfl⟩))
        exact ⟨rfl, rfl, rfl⟩
      · cases br
        · rw [if_pos (show (!false && (true && !false)) = true from rfl)]
          go_enter Tryz.func184, Tryz.ntmps184
          go_wp2_with (first | (go_at_call 30; (with_reducible refine HN.out.mono ?_); rintro e w1 ⟨rfl, hp1, hk1⟩) | (go_at_call 78; (with_reducible refine (HLW.out _).mono ?_); rintro e w1 ⟨rfl, rfl⟩) | (go_at_call 100; (with_reducible refine (HRV.out _).mono ?_); rintro e w1 ⟨rfl, rfl⟩))
          go_ret
          exact ⟨curAt s i + (curTx s i).length, by rw [HU.out]; rfl, HNX.out, hp1, hk1⟩
        · go_enter Tryz.func184, Tryz.ntmps184
          go_wp2_with (first | (go_at_call 32; (with_reducible refine HW.out.mono ?_); rintro e w1 ⟨rfl, rfl⟩) | (go_at_call 78; (with_reducible refine (HLW.out _).mono ?_); rintro e w1 ⟨rfl, rfl⟩) | (go_at_call 100; (with_reducible refine (HRV.out _).mono ?_); rintro e w1 ⟨rfl, rfl⟩))
          exact ⟨rfl, rfl, rfl⟩
    · go_enter Tryz.func184, Tryz.ntmps184
      go_wp2_with (go_at_call 32; (with_reducible refine HW.out.mono ?_); rintro e w1 ⟨rfl, rfl⟩)
      exact ⟨rfl, rfl, rfl⟩
end Go.Proofs.YtobanldeicclmaaGreatDoor
