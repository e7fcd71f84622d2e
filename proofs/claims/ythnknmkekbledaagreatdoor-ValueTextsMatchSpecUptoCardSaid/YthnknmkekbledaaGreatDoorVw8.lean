/- The walk of readSet. -/
import Derived.Test.YthnknmkekbledaaGreatDoorVw7
namespace Go.Proofs.YthnknmkekbledaaGreatDoor
open Go.RowKit Dig Vtx

theorem infoInt : (Tryz.prog.info? 3).map (fun i => (i.zero, i.size, i.bytes)) = some (some (.int .i64 0), 1, 8) := by kernel_rfl
theorem trimSuf (s p : ByteArray) (w : World) (hs : s.size ≤ 2000000) :
    Calls Tryz.prog 38 #[.string s, .string p] w fun e w' => (∃ t : ByteArray, e = .returned (.string t) ∧ t.data.toList = Lib.trimSuffix s.data.toList p.data.toList) ∧ w = w' :=
  (Tryz.strings_TrimSuffix s p w (by omega)).mono fun _ _ ⟨he, hw⟩ => ⟨⟨_, he, rfl⟩, hw.symm⟩
theorem own_set {w : World} {B size n g i : Nat} {e : TypeId} {v : Value} {xs : List Value} (h : w.ownsRow B e size v n xs) (hg : g < B) (u : Value) : (w.setCell ⟨g, i, none⟩ u).ownsRow B e size v n xs := by
  refine ⟨h.1, h.2.imp id ?_⟩
  rintro ⟨g', cap, cur, e0, e1, e2, e3, e4, e5, e6⟩
  exact ⟨g', cap, cur, e0, e1, by rw [Below.heap_setCell w ⟨g, i, none⟩ u g' (by show g' ≠ g; omega)]; exact e2, e3, e4, e5, e6⟩
theorem own_ints {w : World} {B' n : Nat} {e : TypeId} {v : Value} {l : List Int} (h : w.ownsRow B' e 1 v n (numV .i64 l)) : n = l.length ∧ ∃ A c, v = .slice A l.length c ∧ Reads w w.heap.size 1 A l.length (numV .i64 l) ∧ ∀ ad, A = some ad → B' ≤ ad.block := by
  obtain ⟨h1, h2⟩ := id h
  have hn : n = l.length := by rw [numV_len] at h1; omega
  subst hn
  refine ⟨rfl, ?_⟩
  rcases h2 with ⟨rfl, e0⟩ | ⟨g, cap, cur, rfl, e1, e2, e3, e4, e5⟩
  · have hl : l = [] := List.eq_nil_of_length_eq_zero e0
    subst hl
    exact ⟨none, 0, rfl, Reads.none_, fun _ h => by cases h⟩
  · exact ⟨_, cap, rfl, Reads.of_own (c := cap) h, fun ad h => by injection h with h; rw [← h]; exact e1⟩
theorem own_reads {w : World} {B' n c : Nat} {A : Option Addr} {e : TypeId} {l : List Int} (h : w.ownsRow B' e 1 (.slice A l.length c) n (numV .i64 l)) : Reads w w.heap.size 1 A l.length (numV .i64 l) ∧ ∀ ad, A = some ad → B' ≤ ad.block := by
  obtain ⟨-, A', c', e, h⟩ := own_ints h
  injection e with e1 _ _
  rw [e1]
  exact h
theorem numV_snoc (xs : List Int) (a : Int) : numV .i64 (xs ++ [a]) = numV .i64 xs ++ [.int .i64 a] := by simp [numV]
/-- what readSet hands back -/
structure SetR (e : Ending) (w : World) (B : Nat) (s : List UInt8) : Prop where
  ex : ∃ A c l ok, e = .returned (.tuple #[.agg #[.int .i64 5, .int .i64 0, .string ⟨#[]⟩, .slice A (List.length (α := Int) l) c], .bool ok]) ∧ Reads w w.heap.size 1 A l.length (numV .i64 l) ∧ (∀ ad, A = some ad → B ≤ ad.block) ∧ l.length ≤ 2000001 ∧
    (ok = true → readSetF s = some l) ∧ (ok = false → readSetF s = none)
theorem codesF_cons (p : List UInt8) (r : List (List UInt8)) (a : Nat) (ok : Bool) (h : wholeF (Lib.trimPrefix p [35]) = (a, ok)) : codesF (p :: r) = if ok then (codesF r).map ((a : Int) :: ·) else none := by
  rw [codesF, h]
theorem map_map_app (o : Option (List Int)) (xs : List Int) (a : Int) : (o.map (a :: ·)).map (xs ++ ·) = o.map ((xs ++ [a]) ++ ·) := by cases o <;> simp
set_option maxHeartbeats 4000000 in
set_option maxRecDepth 100000 in
theorem readSet_any (s : ByteArray) (w : World) (hs : s.size ≤ 2000000) (hm : Mx w) :
    Calls Tryz.prog 40 #[.string s] w fun e w' => SetR e w' w.heap.size s.data.toList ∧ Below w.heap.size w w' := by
  have HM := Lib.hid hm
  clear hm
  obtain ⟨i0, hi0, hz0, hz1, hz2⟩ := info_parts infoInt
  go_enter Tryz.func40, Tryz.ntmps40
  go_wp2_with fail
  obtain ⟨W, hW⟩ : ∃ W, W = ((w.alloc (.cells #[.int .i64 0, .int .i64 0, .string ⟨#[]⟩, .slice none 0 0] 24 (0, 0))).alloc (.cells #[.int .i64 5, .int .i64 0, .string ⟨#[]⟩, .slice none 0 0] 24 (0, 0))) := ⟨_, rfl⟩
  have hbw : Below w.heap.size w W := by rw [hW]; exact (((Below.refl _ w).alloc (Nat.le_refl _) _).alloc (by simp) _)
  have B0 : Blk W (w.heap.size) 24 #[.int .i64 0, .int .i64 0, .string ⟨#[]⟩, .slice none 0 0] := by
    rw [hW]
    have := Blk.new w 24 #[.int .i64 0, .int .i64 0, .string ⟨#[]⟩, .slice none 0 0]
    have := this.alloc (.cells #[.int .i64 5, .int .i64 0, .string ⟨#[]⟩, .slice none 0 0] 24 (0, 0))
    exact this
  have B1 : Blk W (w.heap.size + 1) 24 #[.int .i64 5, .int .i64 0, .string ⟨#[]⟩, .slice none 0 0] := by
    rw [hW]
    have := Blk.new (w.alloc (.cells #[.int .i64 0, .int .i64 0, .string ⟨#[]⟩, .slice none 0 0] 24 (0, 0))) 24 #[.int .i64 5, .int .i64 0, .string ⟨#[]⟩, .slice none 0 0]
    rwa [World.size_alloc] at this
  have hsz : W.heap.size = w.heap.size + 2 := by rw [hW]; simp
  rw [← hW]
  clear hW hsz
  refine (trimPre s ⟨#[123]⟩ W).mono ?_
  rintro e w1 ⟨⟨t1, rfl, ht1⟩, rfl⟩
  have hl1 : t1.size ≤ s.size := by rw [dsize ht1]; exact Lib.trimPrefix_le _ _
  have HT1 := Lib.hid ht1
  clear ht1
  go_wp2_with fail
  refine (trimSuf t1 ⟨#[125]⟩ W (by omega)).mono ?_
  rintro e w1 ⟨⟨t, rfl, ht⟩, rfl⟩
  have hl2 : t.size ≤ t1.size := by rw [dsize ht]; exact Lib.trimSuffix_le _ _
  rw [HT1.out] at ht
  have HT := Lib.hid (show t.data.toList = innerF s.data.toList from ht)
  clear ht HT1
  have rc0 : W.cell? ⟨w.heap.size, 0, none⟩ = some (.int .i64 0) := B0.cell 0
  have rz0 : W.frozen? ⟨w.heap.size, 0, none⟩ = false := B0.frozen 0
  have rc1 : W.cell? ⟨w.heap.size, 1, none⟩ = some (.int .i64 0) := B0.cell 1
  have rz1 : W.frozen? ⟨w.heap.size, 1, none⟩ = false := B0.frozen 1
  have rc2 : W.cell? ⟨w.heap.size, 2, none⟩ = some (.string ⟨#[]⟩) := B0.cell 2
  have rz2 : W.frozen? ⟨w.heap.size, 2, none⟩ = false := B0.frozen 2
  have rc3 : W.cell? ⟨w.heap.size, 3, none⟩ = some (.slice none 0 0) := B0.cell 3
  have rz3 : W.frozen? ⟨w.heap.size, 3, none⟩ = false := B0.frozen 3
  have vc0 : W.cell? ⟨w.heap.size + 1, 0, none⟩ = some (.int .i64 5) := B1.cell 0
  have vc1 : W.cell? ⟨w.heap.size + 1, 1, none⟩ = some (.int .i64 0) := B1.cell 1
  have vc2 : W.cell? ⟨w.heap.size + 1, 2, none⟩ = some (.string ⟨#[]⟩) := B1.cell 2
  have vc3 : W.cell? ⟨w.heap.size + 1, 3, none⟩ = some (.slice none 0 0) := B1.cell 3
  by_cases h0 : t = ⟨#[]⟩
  · have HE := Lib.hid (show readSetF s.data.toList = some [] by unfold readSetF; rw [← HT.out, h0]; rfl)
    subst h0
    go_wp2
    obtain ⟨W9, hW9⟩ : ∃ W9, W9 = (((W.setCell ⟨w.heap.size, 0, none⟩ (.int .i64 5)).setCell ⟨w.heap.size, 1, none⟩ (.int .i64 0)).setCell ⟨w.heap.size, 2, none⟩ (.string ⟨#[]⟩)).setCell ⟨w.heap.size, 3, none⟩ (.slice none 0 0) := ⟨_, rfl⟩
    have B9 : Blk W9 (w.heap.size) 24 #[.int .i64 5, .int .i64 0, .string ⟨#[]⟩, .slice none 0 0] := hW9 ▸ ((((B0.set_ 0 _).set_ 1 _).set_ 2 _).set_ 3 _)
    have hbw9 : Below w.heap.size w W9 := hW9 ▸ ((((hbw.setCell (p := ⟨w.heap.size, 0, none⟩) (Nat.le_refl _) _).setCell (p := ⟨w.heap.size, 1, none⟩) (Nat.le_refl _) _).setCell (p := ⟨w.heap.size, 2, none⟩) (Nat.le_refl _) _).setCell (p := ⟨w.heap.size, 3, none⟩) (Nat.le_refl _) _)
    rw [← hW9]
    clear hW9
    have qc0 : W9.cell? ⟨w.heap.size, 0, none⟩ = some (.int .i64 5) := B9.cell 0
    have qc1 : W9.cell? ⟨w.heap.size, 1, none⟩ = some (.int .i64 0) := B9.cell 1
    have qc2 : W9.cell? ⟨w.heap.size, 2, none⟩ = some (.string ⟨#[]⟩) := B9.cell 2
    have qc3 : W9.cell? ⟨w.heap.size, 3, none⟩ = some (.slice none 0 0) := B9.cell 3
    refine bodyPost_ret (v := .tuple #[.agg #[.int .i64 5, .int .i64 0, .string ⟨#[]⟩, .slice none 0 0], .bool true]) (by simp [results, Tryz.results40, go_sem, qc0, qc1, qc2, qc3]) rfl ⟨⟨⟨none, 0, [], true, rfl, Reads.none_, (fun _ h => by cases h), by simp, fun _ => HE.out, fun h => by cases h⟩⟩, hbw9⟩
  have hne : t.data.toList ≠ [] := fun e => h0 (ba_of e)
  have se : t.toList.isEmpty = false := by rw [ByteArray.toList_eq]; simpa using hne
  have HE := Lib.hid (show readSetF s.data.toList = codesF (Lib.split t.data.toList [44]) by unfold readSetF; rw [← HT.out, if_neg hne])
  clear hne h0 HT rc0 rz0 rc1 rz1 rc2 rz2 rc3 rz3 vc0 vc1 vc2 vc3
  go_wp2_with fail
  refine (split_any t 44 W (by omega) (HM.out.below hbw)).mono ?_
  rintro e w1 ⟨ps, rfl, hw1, hps, hpl⟩
  have hb1 : Below W.heap.size W w1 := hw1 ▸ (Below.refl _ W).alloc (Nat.le_refl _) _
  have hsz1 : w1.heap.size = W.heap.size + 1 := by rw [hw1]; simp
  have B2 : Blk w1 W.heap.size 9 (ps.map Value.string).toArray := hw1 ▸ Blk.new W _ _
  rw [← hps] at HE
  have hWs := B1.lt
  have B0 := B0.below hb1 B0.lt
  have B1 := B1.below hb1 B1.lt
  have hbw := hbw.trans (hb1.mono hbw.size)
  have hpm : ps.length ≤ 2000001 := by omega
  have hlt1 : W.heap.size < w1.heap.size := by omega
  have HB0 := Lib.hid B0
  have HB1 := Lib.hid B1
  have HB2 := Lib.hid B2
  have hg0 : w.heap.size < w1.heap.size := B0.lt
  have hg1 : w.heap.size + 1 < w1.heap.size := B1.lt
  have hgW : w.heap.size + 1 < W.heap.size := hWs
  clear hps hw1 hb1 hpl hsz1 B0 B1 B2 hWs
  go_wp2
  go_loopw [19] (fun i wr => ∃ (k : Nat) (v : Value) (xs : List Int), k ≤ ps.length ∧ i = .int .i64 k ∧ Hid (Blk wr w.heap.size 24 #[.int .i64 0, .int .i64 0, .string ⟨#[]⟩, .slice none 0 0]) ∧ Hid (Blk wr (w.heap.size + 1) 24 #[.int .i64 5, .int .i64 0, .string ⟨#[]⟩, v]) ∧ Hid (Blk wr W.heap.size 9 (ps.map Value.string).toArray) ∧
      Hid (wr.ownsRow w1.heap.size 3 1 v k (numV .i64 xs)) ∧ Hid (codesF (ps.map (·.data.toList)) = (codesF ((ps.map (·.data.toList)).drop k)).map (xs ++ ·)) ∧ Below w.heap.size w wr ∧ w1.heap.size ≤ wr.heap.size) (fun i _ => ps.length - (intOf i).toNat)
  case atStart => exact ⟨0, _, [], Nat.zero_le _, rfl, HB0, HB1, HB2, Lib.hid (World.ownsRow_nil _ _ _ _), Lib.hid (by simp), hbw, Nat.le_refl _⟩
  case round =>
    obtain ⟨k, v, xs, hk, rfl, B0, B1, B2, HO, HC, hbr, hsr⟩ := hrel
    clear HB0 HB1 HB2
    obtain ⟨hkx, A, c, rfl, -⟩ := own_ints HO.out
    have HKX := Lib.hid hkx
    clear hkx
    by_cases hlt : k < ps.length
    · obtain ⟨p, hp⟩ : ∃ p, ps[k] = p := ⟨_, rfl⟩
      have pc : wr.cell? ⟨W.heap.size, k, none⟩ = some (.string p) := by rw [B2.out.cell k]; simp [hlt, hp]
      have HD := Lib.hid (show (ps.map (·.data.toList)).drop k = p.data.toList :: (ps.map (·.data.toList)).drop (k + 1) by
        rw [List.drop_eq_getElem_cons (by simpa using hlt), List.getElem_map, hp])
      clear hp
      go_wp2_with fail
      refine (trimPre p ⟨#[35]⟩ wr).mono ?_
      rintro e w2 ⟨⟨q, rfl, hq⟩, rfl⟩
      obtain ⟨a, ok, hwf, hwv, ha⟩ := wholeV_form q.data.toList
      have HWV := Lib.hid hwv
      have HCC := Lib.hid (codesF_cons p.data.toList ((ps.map (·.data.toList)).drop (k + 1)) a ok (by rw [← hwf, hq]))
      clear hq hwf hwv pc
      go_wp2_with fail
      refine (whole_any q wr).mono ?_
      rw [HWV.out]
      rintro e w2 ⟨rfl, rfl⟩
      clear HWV
      cases ok
      · have HF := Lib.hid (show readSetF s.data.toList = none by
          rw [HE.out, HC.out, HD.out, HCC.out]; rfl)
        have hxl : xs.length ≤ 2000001 := by have := HKX.out; omega
        have B0 := B0.out
        have B1 := B1.out
        have rc0 : wr.cell? ⟨w.heap.size, 0, none⟩ = some (.int .i64 0) := B0.cell 0
        have rz0 : wr.frozen? ⟨w.heap.size, 0, none⟩ = false := B0.frozen 0
        have rc1 : wr.cell? ⟨w.heap.size, 1, none⟩ = some (.int .i64 0) := B0.cell 1
        have rz1 : wr.frozen? ⟨w.heap.size, 1, none⟩ = false := B0.frozen 1
        have rc2 : wr.cell? ⟨w.heap.size, 2, none⟩ = some (.string ⟨#[]⟩) := B0.cell 2
        have rz2 : wr.frozen? ⟨w.heap.size, 2, none⟩ = false := B0.frozen 2
        have rc3 : wr.cell? ⟨w.heap.size, 3, none⟩ = some (.slice none 0 0) := B0.cell 3
        have rz3 : wr.frozen? ⟨w.heap.size, 3, none⟩ = false := B0.frozen 3
        have vc0 : wr.cell? ⟨w.heap.size + 1, 0, none⟩ = some (.int .i64 5) := B1.cell 0
        have vz0 : wr.frozen? ⟨w.heap.size + 1, 0, none⟩ = false := B1.frozen 0
        have vc1 : wr.cell? ⟨w.heap.size + 1, 1, none⟩ = some (.int .i64 0) := B1.cell 1
        have vz1 : wr.frozen? ⟨w.heap.size + 1, 1, none⟩ = false := B1.frozen 1
        have vc2 : wr.cell? ⟨w.heap.size + 1, 2, none⟩ = some (.string ⟨#[]⟩) := B1.cell 2
        have vz2 : wr.frozen? ⟨w.heap.size + 1, 2, none⟩ = false := B1.frozen 2
        have vc3 : wr.cell? ⟨w.heap.size + 1, 3, none⟩ = some (.slice A xs.length c) := B1.cell 3
        have vz3 : wr.frozen? ⟨w.heap.size + 1, 3, none⟩ = false := B1.frozen 3
        clear HC HD HCC
        go_wp2
        obtain ⟨W9, hW9⟩ : ∃ W9, W9 = (((wr.setCell ⟨w.heap.size, 0, none⟩ (.int .i64 5)).setCell ⟨w.heap.size, 1, none⟩ (.int .i64 0)).setCell ⟨w.heap.size, 2, none⟩ (.string ⟨#[]⟩)).setCell ⟨w.heap.size, 3, none⟩ (.slice A xs.length c) := ⟨_, rfl⟩
        have B9 : Blk W9 (w.heap.size) 24 #[.int .i64 5, .int .i64 0, .string ⟨#[]⟩, .slice A xs.length c] := hW9 ▸ ((((B0.set_ 0 _).set_ 1 _).set_ 2 _).set_ 3 _)
        have hbw9 : Below w.heap.size w W9 := hW9 ▸ ((((hbr.setCell (p := ⟨w.heap.size, 0, none⟩) (Nat.le_refl _) _).setCell (p := ⟨w.heap.size, 1, none⟩) (Nat.le_refl _) _).setCell (p := ⟨w.heap.size, 2, none⟩) (Nat.le_refl _) _).setCell (p := ⟨w.heap.size, 3, none⟩) (Nat.le_refl _) _)
        have HO9 := Lib.hid (hW9 ▸ own_set (own_set (own_set (own_set HO.out hg0 _) hg0 _) hg0 _) hg0 _ : W9.ownsRow w1.heap.size 3 1 (.slice A xs.length c) k (numV .i64 xs))
        rw [← hW9]
        clear hW9
        have qc0 : W9.cell? ⟨w.heap.size, 0, none⟩ = some (.int .i64 5) := B9.cell 0
        have qc1 : W9.cell? ⟨w.heap.size, 1, none⟩ = some (.int .i64 0) := B9.cell 1
        have qc2 : W9.cell? ⟨w.heap.size, 2, none⟩ = some (.string ⟨#[]⟩) := B9.cell 2
        have qc3 : W9.cell? ⟨w.heap.size, 3, none⟩ = some (.slice A xs.length c) := B9.cell 3
        refine bodyPost_ret (v := .tuple #[.agg #[.int .i64 5, .int .i64 0, .string ⟨#[]⟩, .slice A xs.length c], .bool false]) (by simp [results, Tryz.results40, go_sem, qc0, qc1, qc2, qc3]) rfl ⟨⟨⟨A, c, xs, false, rfl, (own_reads HO9.out).1, (fun ad h => Nat.le_of_lt (Nat.lt_of_lt_of_le hg0 ((own_reads HO9.out).2 ad h))), hxl, (fun h => by cases h), fun _ => HF.out⟩⟩, hbw9⟩
      · have B0 := B0.out
        have B1 := B1.out
        have B2 := B2.out
        have hrow : ∀ g, Value.ownBlock (.slice A xs.length c) = some g → w1.heap.size ≤ g := fun g hg => (HO.out.lt g hg).1
        have HROW := Lib.hid hrow
        have HC2 := Lib.hid (show codesF (ps.map (·.data.toList)) = (codesF ((ps.map (·.data.toList)).drop (k + 1))).map ((xs ++ [(a : Int)]) ++ ·) by
          rw [HC.out, HD.out, HCC.out, if_pos rfl, map_map_app])
        clear hrow HC HD HCC
        have vc0 : wr.cell? ⟨w.heap.size + 1, 0, none⟩ = some (.int .i64 5) := B1.cell 0
        have vz0 : wr.frozen? ⟨w.heap.size + 1, 0, none⟩ = false := B1.frozen 0
        have vc1 : wr.cell? ⟨w.heap.size + 1, 1, none⟩ = some (.int .i64 0) := B1.cell 1
        have vz1 : wr.frozen? ⟨w.heap.size + 1, 1, none⟩ = false := B1.frozen 1
        have vc2 : wr.cell? ⟨w.heap.size + 1, 2, none⟩ = some (.string ⟨#[]⟩) := B1.cell 2
        have vz2 : wr.frozen? ⟨w.heap.size + 1, 2, none⟩ = false := B1.frozen 2
        have vc3 : wr.cell? ⟨w.heap.size + 1, 3, none⟩ = some (.slice A xs.length c) := B1.cell 3
        have vz3 : wr.frozen? ⟨w.heap.size + 1, 3, none⟩ = false := B1.frozen 3
        go_wp2_with (at_builtin; refine wpList_append_own _ rfl _ _ 22 rfl w1.heap.size 3 i0 (.int .i64 0) 1 8 Tryz.underlying22 hi0 hz0 hz1 hz2 rfl (by decide) _ _ _ rfl (HO.out.alloc _) ⟨wr.heap.size, 0, none⟩ 1 1 [.int .i64 (a : Nat)] rfl rfl ?c1 ?c2 ?c3 ?c4 ?c5 ?_)
        case c1 => intro j u hj; cases j <;> simp_all [go_sem]
        case c2 => intro u hu; simp only [List.mem_singleton] at hu; subst hu; rfl
        case c3 => unfold maxLen; omega
        case c4 => omega
        case c5 => simp; omega
        intro v2 w3 hown3 hg3 _
        have hs3 : wr.heap.size + 1 ≤ w3.heap.size := by have := hg3.size; simpa using this
        have B0' : Blk w3 w.heap.size 24 #[.int .i64 0, .int .i64 0, .string ⟨#[]⟩, .slice none 0 0] := (B0.alloc _).grown hg3 (fun e => by have := HROW.out _ e.symm; omega)
        have B1' : Blk w3 (w.heap.size + 1) 24 #[.int .i64 5, .int .i64 0, .string ⟨#[]⟩, .slice A xs.length c] := (B1.alloc _).grown hg3 (fun e => by have := HROW.out _ e.symm; omega)
        have B2' : Blk w3 W.heap.size 9 (ps.map Value.string).toArray := (B2.alloc _).grown hg3 (fun e => by have := HROW.out _ e.symm; omega)
        have hb3 : Below w.heap.size w w3 := (hbr.alloc (by omega) _).grown hg3 (by simp; omega) (fun g hg => by have := HROW.out g hg; omega)
        have HO3 := Lib.hid (show w3.ownsRow w1.heap.size 3 1 v2 (k + 1) (numV .i64 (xs ++ [(a : Int)])) by rw [numV_snoc]; exact hown3)
        obtain ⟨ao, n', cap, rfl⟩ : ∃ ao n' cap, v2 = .slice ao n' cap := by
          rcases hown3.2 with ⟨hv, _⟩ | ⟨g, cap, cur, hv, _⟩
          · exact ⟨_, _, _, hv⟩
          · exact ⟨_, _, _, hv⟩
        clear hown3 hg3 vc0 vz0 vc1 vz1 vc2 vz2 vc3 vz3
        have vc3 : w3.cell? ⟨w.heap.size + 1, 3, none⟩ = some (.slice A xs.length c) := B1'.cell 3
        have vz3 : w3.frozen? ⟨w.heap.size + 1, 3, none⟩ = false := B1'.frozen 3
        go_wp2
        go_roundw
        case rel => exact ⟨k + 1, _, xs ++ [(a : Int)], by omega, by go_num, Lib.hid (B0'.far (p := ⟨w.heap.size + 1, 3, none⟩) (by show w.heap.size ≠ w.heap.size + 1; omega) _), Lib.hid (B1'.set_ 3 _), Lib.hid (B2'.far (p := ⟨w.heap.size + 1, 3, none⟩) (by show W.heap.size ≠ w.heap.size + 1; omega) _), Lib.hid (own_set HO3.out hg1 _), HC2, hb3.setCell (p := ⟨w.heap.size + 1, 3, none⟩) (by show w.heap.size ≤ w.heap.size + 1; omega) _, by simp [World.setCell]; omega⟩
        case measure => simp [intOf]; omega
    · have HF := Lib.hid (show readSetF s.data.toList = some xs by
        rw [HE.out, HC.out, List.drop_eq_nil_of_le (by simp; omega)]; simp [codesF])
      have hxl : xs.length ≤ 2000001 := by have := HKX.out; omega
      have B0 := B0.out
      have B1 := B1.out
      have rc0 : wr.cell? ⟨w.heap.size, 0, none⟩ = some (.int .i64 0) := B0.cell 0
      have rz0 : wr.frozen? ⟨w.heap.size, 0, none⟩ = false := B0.frozen 0
      have rc1 : wr.cell? ⟨w.heap.size, 1, none⟩ = some (.int .i64 0) := B0.cell 1
      have rz1 : wr.frozen? ⟨w.heap.size, 1, none⟩ = false := B0.frozen 1
      have rc2 : wr.cell? ⟨w.heap.size, 2, none⟩ = some (.string ⟨#[]⟩) := B0.cell 2
      have rz2 : wr.frozen? ⟨w.heap.size, 2, none⟩ = false := B0.frozen 2
      have rc3 : wr.cell? ⟨w.heap.size, 3, none⟩ = some (.slice none 0 0) := B0.cell 3
      have rz3 : wr.frozen? ⟨w.heap.size, 3, none⟩ = false := B0.frozen 3
      have vc0 : wr.cell? ⟨w.heap.size + 1, 0, none⟩ = some (.int .i64 5) := B1.cell 0
      have vz0 : wr.frozen? ⟨w.heap.size + 1, 0, none⟩ = false := B1.frozen 0
      have vc1 : wr.cell? ⟨w.heap.size + 1, 1, none⟩ = some (.int .i64 0) := B1.cell 1
      have vz1 : wr.frozen? ⟨w.heap.size + 1, 1, none⟩ = false := B1.frozen 1
      have vc2 : wr.cell? ⟨w.heap.size + 1, 2, none⟩ = some (.string ⟨#[]⟩) := B1.cell 2
      have vz2 : wr.frozen? ⟨w.heap.size + 1, 2, none⟩ = false := B1.frozen 2
      have vc3 : wr.cell? ⟨w.heap.size + 1, 3, none⟩ = some (.slice A xs.length c) := B1.cell 3
      have vz3 : wr.frozen? ⟨w.heap.size + 1, 3, none⟩ = false := B1.frozen 3
      clear HC
      go_wp2
      obtain ⟨W9, hW9⟩ : ∃ W9, W9 = (((wr.setCell ⟨w.heap.size, 0, none⟩ (.int .i64 5)).setCell ⟨w.heap.size, 1, none⟩ (.int .i64 0)).setCell ⟨w.heap.size, 2, none⟩ (.string ⟨#[]⟩)).setCell ⟨w.heap.size, 3, none⟩ (.slice A xs.length c) := ⟨_, rfl⟩
      have B9 : Blk W9 (w.heap.size) 24 #[.int .i64 5, .int .i64 0, .string ⟨#[]⟩, .slice A xs.length c] := hW9 ▸ ((((B0.set_ 0 _).set_ 1 _).set_ 2 _).set_ 3 _)
      have hbw9 : Below w.heap.size w W9 := hW9 ▸ ((((hbr.setCell (p := ⟨w.heap.size, 0, none⟩) (Nat.le_refl _) _).setCell (p := ⟨w.heap.size, 1, none⟩) (Nat.le_refl _) _).setCell (p := ⟨w.heap.size, 2, none⟩) (Nat.le_refl _) _).setCell (p := ⟨w.heap.size, 3, none⟩) (Nat.le_refl _) _)
      have HO9 := Lib.hid (hW9 ▸ own_set (own_set (own_set (own_set HO.out hg0 _) hg0 _) hg0 _) hg0 _ : W9.ownsRow w1.heap.size 3 1 (.slice A xs.length c) k (numV .i64 xs))
      rw [← hW9]
      clear hW9
      have qc0 : W9.cell? ⟨w.heap.size, 0, none⟩ = some (.int .i64 5) := B9.cell 0
      have qc1 : W9.cell? ⟨w.heap.size, 1, none⟩ = some (.int .i64 0) := B9.cell 1
      have qc2 : W9.cell? ⟨w.heap.size, 2, none⟩ = some (.string ⟨#[]⟩) := B9.cell 2
      have qc3 : W9.cell? ⟨w.heap.size, 3, none⟩ = some (.slice A xs.length c) := B9.cell 3
      refine bodyPost_ret (v := .tuple #[.agg #[.int .i64 5, .int .i64 0, .string ⟨#[]⟩, .slice A xs.length c], .bool true]) (by simp [results, Tryz.results40, go_sem, qc0, qc1, qc2, qc3]) rfl ⟨⟨⟨A, c, xs, true, rfl, (own_reads HO9.out).1, (fun ad h => Nat.le_of_lt (Nat.lt_of_lt_of_le hg0 ((own_reads HO9.out).2 ad h))), hxl, fun _ => HF.out, fun h => by cases h⟩⟩, hbw9⟩
end Go.Proofs.YthnknmkekbledaaGreatDoor
