/- The walk of showSet. -/
import Derived.Test.YthnknmkekbledaaGreatDoorVw3
namespace Go.Proofs.YthnknmkekbledaaGreatDoor
open Go.RowKit Dig Vtx

theorem infoS : (Tryz.prog.info? 9).map (fun i => (i.zero, i.size, i.bytes)) = some (some (.string ByteArray.empty), 1, 16) := by kernel_rfl
theorem own_strs {w : World} {B' n : Nat} {v : Value} {xs : List ByteArray} (h : w.ownsRow B' 9 1 v n (xs.map Value.string)) : n = xs.length ∧ ((v = .slice none 0 0 ∧ xs = []) ∨ ∃ g c, v = .slice (some ⟨g, 0, none⟩) xs.length c ∧ g < w.heap.size ∧ xs.length ≤ c ∧ ∀ j x, xs[j]? = some x → w.cell? ⟨g, 0 + j, none⟩ = some (.string x)) := by
  obtain ⟨h1, h2⟩ := id h
  have hn : n = xs.length := by simp at h1; omega
  subst hn
  refine ⟨rfl, ?_⟩
  rcases h2 with ⟨rfl, e0⟩ | ⟨g, cap, cur, rfl, e1, e2, e3, e4, e5⟩
  · exact .inl ⟨rfl, List.eq_nil_of_length_eq_zero e0⟩
  · refine .inr ⟨g, cap, rfl, ?_, e3, fun j x hx => ?_⟩
    · rcases Nat.lt_or_ge g w.heap.size with h' | h'
      · exact h'
      · rw [Array.getElem?_eq_none h'] at e2; cases e2
    · have := h.cells (g := g) rfl j (.string x) (by simp [hx])
      rwa [Addr.add_lit] at this
theorem join_own {B' n : Nat} {v : Value} (xs : List ByteArray) (sep : ByteArray) (w : World) (h : w.ownsRow B' 9 1 v n (xs.map Value.string)) (hN : xs.length ≤ 140737488355328)
    (hlen : (Lib.join (xs.map (·.data.toList)) sep.data.toList).length ≤ 140737488355328) :
    Calls Tryz.prog 50 #[v, .string sep] w fun e w' => (∃ t : ByteArray, e = .returned (.string t) ∧ t.data.toList = Lib.join (xs.map (·.data.toList)) sep.data.toList) ∧ Below w.heap.size w w' := by
  obtain ⟨rfl, ⟨rfl, rfl⟩ | ⟨g, c, rfl, hg, hc, hcells⟩⟩ := own_strs h
  · exact (Tryz.strings_Join_none none 0 sep w).mono fun _ _ ⟨he, hw⟩ => ⟨⟨_, he, rfl⟩, hw ▸ Below.refl _ _⟩
  · exact (Tryz.strings_Join g 0 c xs sep w hcells hg hN hc hlen).mono fun _ _ ⟨he, hb⟩ => ⟨⟨_, he, rfl⟩, hb⟩
theorem own_below {w w' : World} {B size n : Nat} {e : TypeId} {v : Value} {xs : List Value} (h : w.ownsRow B e size v n xs) (hb : Below w.heap.size w w') : w'.ownsRow B e size v n xs := by
  refine ⟨h.1, h.2.imp id ?_⟩
  rintro ⟨g, cap, cur, e0, e1, e2, e3, e4, e5, e6⟩
  have hlt : g < w.heap.size := by
    rcases Nat.lt_or_ge g w.heap.size with h' | h'
    · exact h'
    · rw [Array.getElem?_eq_none h'] at e2; cases e2
  exact ⟨g, cap, cur, e0, e1, (hb.block g hlt).trans e2, e3, e4, e5, e6⟩
/-- the texts of a set's codes -/
def codeS (l : List Int) : List ByteArray := l.map fun c => ⟨(codeT c).toArray⟩
theorem codeS_data (l : List Int) : (codeS l).map (·.data.toList) = l.map codeT := by simp [codeS]
theorem code_len {c : Int} (h : 1 ≤ c ∧ c ≤ 999) : (codeT c).length ≤ 4 := by
  rw [code_nat (by omega), List.length_cons]
  have := dec_len 2 c.toNat (by omega)
  omega
theorem joinT_len : ∀ (l : List Int), (∀ c ∈ l, 1 ≤ c ∧ c ≤ 999) → (Lib.join (l.map codeT) [44]).length ≤ 5 * l.length
  | [], _ => by simp [Lib.join_nil]
  | [c], h => by
    rw [List.map_cons, List.map_nil, Lib.join_one]
    have := code_len (h c (List.mem_cons_self ..))
    simp; omega
  | c :: d :: r, h => by
    have e : Lib.join ((c :: d :: r).map codeT) [44] = codeT c ++ 44 :: Lib.join ((d :: r).map codeT) [44] := by
      simp only [List.map_cons]
      rw [Lib.join_cons, Lib.join_cons]; simp [Lib.joinTail]
    have := joinT_len (d :: r) (fun x hx => h x (List.mem_cons_of_mem _ hx))
    have := code_len (h c (List.mem_cons_self ..))
    rw [e]
    simp only [List.length_append, List.length_cons] at *
    omega
set_option maxHeartbeats 2000000 in
set_option maxRecDepth 100000 in
theorem showSet_any (A : Option Addr) (l : List Int) (c B1 : Nat) (w : World) (hl : l.length ≤ 1000) (hc : ∀ c ∈ l, 1 ≤ c ∧ c ≤ 999) (hx : Reads w B1 1 A l.length (numV .i64 l)) (hB1 : B1 ≤ w.heap.size) (htab : Tab w) :
    Calls Tryz.prog 26 #[.slice A l.length c] w fun e w' => (∃ t : ByteArray, e = .returned (.string t) ∧ t.data.toList = setT l) ∧ Below w.heap.size w w' := by
  have HT := Lib.hid htab
  have HX := Lib.hid (hx.more hB1)
  have HC := Lib.hid hc
  clear htab hx hc
  obtain ⟨i0, hi0, hz0, hz1, hz2⟩ := info_parts infoS
  go_enter Tryz.func26, Tryz.ntmps26
  go_wp2
  go_loopw [3, 8] (fun v i wr => ∃ k : Nat, k ≤ l.length ∧ i = .int .i64 k ∧ wr.ownsRow w.heap.size 9 1 v k ((codeS (l.take k)).map Value.string) ∧ Below w.heap.size w wr) (fun _ i _ => l.length - (intOf i).toNat)
  case atStart => exact ⟨0, Nat.zero_le _, rfl, World.ownsRow_nil _ _ _ _, Below.refl _ _⟩
  case round =>
    obtain ⟨k, hk, rfl, hown, hbr⟩ := hrel
    have HO := Lib.hid hown
    clear hown
    have hsr := hbr.size
    by_cases hlt : k < l.length
    · obtain ⟨ad, u, rfl, hb, hu, hcell⟩ := (HX.out.below hbr).at_ hlt
      obtain ⟨hkl, rfl⟩ := numV_get _ _ _ _ hu
      obtain ⟨x, hx⟩ : ∃ x, l[k] = x := ⟨_, rfl⟩
      have hxc := HC.out l[k] (List.getElem_mem hkl)
      rw [hx] at hxc hcell
      obtain ⟨hx1, hx2⟩ := hxc
      have HXX := Lib.hid hx
      have HT1 := Lib.hid (HT.out.below hbr)
      clear hu hx
      go_wp2_with fail
      refine (itoa_any x wr (by omega) (by omega) HT1.out).mono ?_
      rintro e w2 ⟨⟨t, rfl, ht⟩, hb2⟩
      have HTT := Lib.hid ht
      have hown2 := own_below HO.out hb2
      have hbr2 := hbr.trans (hb2.mono hsr)
      have hs2 := hbr2.size
      have htl : t.size ≤ 20 := by
        rw [dsize ht]
        obtain ⟨m, rfl⟩ : ∃ m : Nat, x = m := ⟨x.toNat, by omega⟩
        rw [itoa_nat]
        have := dec_len 2 m (by omega)
        omega
      have HN := Lib.hid (show (codeS (l.take (k + 1))).map Value.string = (codeS (l.take k)).map Value.string ++ [.string (⟨#[35]⟩ ++ t)] by
        rw [List.take_succ_eq_append_getElem hkl, HXX.out]
        unfold codeS
        rw [List.map_append, List.map_append]
        congr 1
        show [Value.string _] = _
        rw [ba_of (show (⟨#[35]⟩ ++ t : ByteArray).data.toList = codeT x by rw [toList_app, HTT.out]; rfl)])
      clear ht hcell HO hb2
      go_wp2_with (at_builtin; refine wpList_append_own _ rfl _ _ 65 rfl w.heap.size 9 i0 (.string ByteArray.empty) 1 16 Tryz.underlying65 hi0 hz0 hz1 hz2 rfl (by decide) _ _ _ rfl (hown2.alloc _) ⟨w2.heap.size, 0, none⟩ 1 1 [.string (⟨#[35]⟩ ++ t)] rfl rfl ?c1 ?c2 ?c3 ?c4 ?c5 ?_)
      case c1 => intro j u hj; cases j <;> simp_all [go_sem]
      case c2 => intro u hu; simp only [List.mem_singleton] at hu; subst hu; rfl
      case c3 => unfold maxLen; omega
      case c4 => omega
      case c5 => simp; omega
      intro v2 w3 hown3 hg3 _
      have hb3 : Below w.heap.size w w3 := (hbr2.alloc (by omega) _).grown hg3 (by simp; omega) (fun g hg => (hown2.lt g hg).1)
      have HO := Lib.hid (show w3.ownsRow w.heap.size 9 1 v2 (k + 1) ((codeS (l.take (k + 1))).map Value.string) by rw [HN.out]; exact hown3)
      clear hown3 hg3 hown2
      go_wp2
      go_roundw
      case rel => exact ⟨k + 1, by omega, by go_num, HO.out, hb3⟩
      case measure => simp [intOf]; omega
    · have HF := Lib.hid (show wr.ownsRow w.heap.size 9 1 _ k ((codeS l).map Value.string) by
        have h := HO.out
        rwa [List.take_of_length_le (by omega)] at h)
      have hjl := joinT_len l HC.out
      clear HO
      go_wp2_with fail
      refine (join_own (codeS l) ⟨#[44]⟩ wr HF.out (by unfold codeS; simp; omega) (by rw [codeS_data]; show (Lib.join _ [44]).length ≤ _; omega)).mono ?_
      rintro e w2 ⟨⟨t, rfl, ht⟩, hb2⟩
      rw [codeS_data] at ht
      have HTT := Lib.hid (show t.data.toList = Lib.join (l.map codeT) [44] from ht)
      have htl : t.size ≤ 5000 := by rw [dsize HTT.out]; omega
      have hb3 := hbr.trans (hb2.mono hsr)
      clear ht
      go_wp2
      go_ret
      exact ⟨⟨_, rfl, by rw [toList_app, toList_app, HTT.out]; rfl⟩, hb3⟩
end Go.Proofs.YthnknmkekbledaaGreatDoor
