/- Lemmas for the claim: walks and plain laws. -/
import Derived.Test.YtobanldeicclmaaGreatDoorZ2
import Derived.Test.YtobanldeicclmaaGreatDoorZ12
import Derived.Deep.DrawnRows
import Derived.Test.YtobanldeicclmaaGreatDoorZ1
import Derived.Test.YtobanldeicclmaaGreatDoorZ5
import Derived.Lib.ItoaLen
import Derived.Deep.RegionHeld3
import Derived.Test.YtobanldeicclmaaGreatDoorZ15
set_option maxHeartbeats 2000000
set_option maxRecDepth 100000
namespace Go.Proofs.YtobanldeicclmaaGreatDoor
open Go.RowKit
attribute [local go_sem ↓] Go.wp_at_zero Go.wp_at_succ
def BO (_w : World) (_B : Nat) (d : ByteArray × Int) (cs : List Value) : Prop := cs = [.string d.1, .int .i64 d.2]
def ni (l : List (ByteArray × Int)) : List Value := l.flatMap (fun d => [.string d.1, .int .i64 d.2])
theorem Fz : ∀ l : List (ByteArray × Int), (ni l).length = l.length * 2
 | [] => rfl
 | d :: r => by
  have := Fz r
  unfold ni at *
  rw [List.flatMap_cons, List.length_append, this]
  simp [Nat.succ_mul, Nat.add_comm]
theorem BQ : ∀ (l : List (ByteArray × Int)) (i : Nat) (h : i < l.length), ((ni l).drop (i * 2)).take 2 = [.string l[i].1, .int .i64 l[i].2]
 | d :: r, 0, _ => by simp [ni]
 | d :: r, i + 1, h => by
  have := BQ r i (by simpa using h)
  unfold ni at *
  rw [List.flatMap_cons, show (i + 1) * 2 = 2 + i * 2 by omega, ← List.drop_drop]
  simpa using this
theorem BZ {w : World} {g B : Nat} {t : TypeId} {l : List (ByteArray × Int)} (h : af w g t (ni l).toArray) (hB : g < B) (hl : l.length ≤ maxLen) : lL BO 2 w B (some ⟨g, 0, none⟩) l := by
 refine ⟨hl, ni l, ⟨Fz l, fun _ => ⟨_, rfl, hB, fun j u hu => ?_⟩⟩, fun i hi => BQ l i hi⟩
 have e : (⟨g, 0, none⟩ : Addr).add j = ⟨g, j, none⟩ := by unfold Addr.add; split <;> simp_all
 rw [e, h.cell j]
 simpa using hu
def lC : List (ByteArray × Int) := [(⟨#[61]⟩, 4), (⟨#[60, 62]⟩, 5), (⟨#[60]⟩, 6), (⟨#[60, 61]⟩, 7), (⟨#[62]⟩, 8), (⟨#[62, 61]⟩, 9), (⟨#[105, 110]⟩, 10), (⟨#[104, 97, 115]⟩, 11)]
theorem TS (w : World) : Calls Tryz.prog 75 #[] w fun e w' => ∃ ad, e = .returned (.slice (some ad) 8 8) ∧ lL BO 2 w' w'.heap.size (some ad) lC ∧ Below w.heap.size w w' := by
 go_enter Tryz.func75, Tryz.ntmps75
 go_wp2_with fail
 go_ret
 have e : (ni lC).toArray = #[.string ⟨#[61]⟩, .int .i64 4, .string ⟨#[60, 62]⟩, .int .i64 5, .string ⟨#[60]⟩, .int .i64 6, .string ⟨#[60, 61]⟩, .int .i64 7, .string ⟨#[62]⟩, .int .i64 8, .string ⟨#[62, 61]⟩, .int .i64 9, .string ⟨#[105, 110]⟩, .int .i64 10, .string ⟨#[104, 97, 115]⟩, .int .i64 11] := by kernel_rfl
 exact ⟨_, rfl, BZ (t := 83) (by rw [e]; exact af.new w 83 #[.string ⟨#[61]⟩, .int .i64 4, .string ⟨#[60, 62]⟩, .int .i64 5, .string ⟨#[60]⟩, .int .i64 6, .string ⟨#[60, 61]⟩, .int .i64 7, .string ⟨#[62]⟩, .int .i64 8, .string ⟨#[62, 61]⟩, .int .i64 9, .string ⟨#[105, 110]⟩, .int .i64 10, .string ⟨#[104, 97, 115]⟩, .int .i64 11]) (by simp) (by decide), (Below.refl _ w).alloc (Nat.le_refl _) _⟩
def wB : List (ByteArray × Int) := [(⟨#[43]⟩, 15), (⟨#[45]⟩, 16)]
def wC : List (ByteArray × Int) := [(⟨#[42]⟩, 17), (⟨#[47]⟩, 18), (⟨#[109, 111, 100]⟩, 19)]
def kz : List (ByteArray × Int) := [(⟨#[97, 110, 115, 119, 101, 114, 101, 100]⟩, 12), (⟨#[97, 115, 107, 101, 100]⟩, 13), (⟨#[114, 101, 97, 115, 111, 110]⟩, 14), (⟨#[97, 98, 115]⟩, 21), (⟨#[102, 108, 111, 111, 114]⟩, 22), (⟨#[114, 111, 117, 110, 100]⟩, 23), (⟨#[109, 105, 110]⟩, 24), (⟨#[109, 97, 120]⟩, 25), (⟨#[105, 102]⟩, 26), (⟨#[101, 108, 115, 101]⟩, 27), (⟨#[115, 105, 122, 101]⟩, 28), (⟨#[99, 111, 100, 101]⟩, 29), (⟨#[108, 111, 119, 101, 114]⟩, 30), (⟨#[106, 111, 105, 110]⟩, 31), (⟨#[98, 101, 103, 105, 110, 115]⟩, 32), (⟨#[104, 111, 108, 100, 115]⟩, 33), (⟨#[121, 101, 97, 114]⟩, 34), (⟨#[109, 111, 110, 116, 104]⟩, 35), (⟨#[100, 97, 121]⟩, 36), (⟨#[100, 97, 121, 115]⟩, 37), (⟨#[97, 103, 101]⟩, 38), (⟨#[108, 97, 116, 101, 114]⟩, 39)]
theorem TT (w : World) : Calls Tryz.prog 51 #[] w fun e w' => ∃ ad, e = .returned (.slice (some ad) 22 22) ∧ lL BO 2 w' w'.heap.size (some ad) kz ∧ Below w.heap.size w w' := by
 go_enter Tryz.func51, Tryz.ntmps51
 go_wp2_with fail
 go_ret
 have e : (ni kz).toArray = #[.string ⟨#[97, 110, 115, 119, 101, 114, 101, 100]⟩, .int .i64 12, .string ⟨#[97, 115, 107, 101, 100]⟩, .int .i64 13, .string ⟨#[114, 101, 97, 115, 111, 110]⟩, .int .i64 14, .string ⟨#[97, 98, 115]⟩, .int .i64 21, .string ⟨#[102, 108, 111, 111, 114]⟩, .int .i64 22, .string ⟨#[114, 111, 117, 110, 100]⟩, .int .i64 23, .string ⟨#[109, 105, 110]⟩, .int .i64 24, .string ⟨#[109, 97, 120]⟩, .int .i64 25, .string ⟨#[105, 102]⟩, .int .i64 26, .string ⟨#[101, 108, 115, 101]⟩, .int .i64 27, .string ⟨#[115, 105, 122, 101]⟩, .int .i64 28, .string ⟨#[99, 111, 100, 101]⟩, .int .i64 29, .string ⟨#[108, 111, 119, 101, 114]⟩, .int .i64 30, .string ⟨#[106, 111, 105, 110]⟩, .int .i64 31, .string ⟨#[98, 101, 103, 105, 110, 115]⟩, .int .i64 32, .string ⟨#[104, 111, 108, 100, 115]⟩, .int .i64 33, .string ⟨#[121, 101, 97, 114]⟩, .int .i64 34, .string ⟨#[109, 111, 110, 116, 104]⟩, .int .i64 35, .string ⟨#[100, 97, 121]⟩, .int .i64 36, .string ⟨#[100, 97, 121, 115]⟩, .int .i64 37, .string ⟨#[97, 103, 101]⟩, .int .i64 38, .string ⟨#[108, 97, 116, 101, 114]⟩, .int .i64 39] := by kernel_rfl
 exact ⟨_, rfl, BZ (t := 83) (by rw [e]; exact af.new w 83 #[.string ⟨#[97, 110, 115, 119, 101, 114, 101, 100]⟩, .int .i64 12, .string ⟨#[97, 115, 107, 101, 100]⟩, .int .i64 13, .string ⟨#[114, 101, 97, 115, 111, 110]⟩, .int .i64 14, .string ⟨#[97, 98, 115]⟩, .int .i64 21, .string ⟨#[102, 108, 111, 111, 114]⟩, .int .i64 22, .string ⟨#[114, 111, 117, 110, 100]⟩, .int .i64 23, .string ⟨#[109, 105, 110]⟩, .int .i64 24, .string ⟨#[109, 97, 120]⟩, .int .i64 25, .string ⟨#[105, 102]⟩, .int .i64 26, .string ⟨#[101, 108, 115, 101]⟩, .int .i64 27, .string ⟨#[115, 105, 122, 101]⟩, .int .i64 28, .string ⟨#[99, 111, 100, 101]⟩, .int .i64 29, .string ⟨#[108, 111, 119, 101, 114]⟩, .int .i64 30, .string ⟨#[106, 111, 105, 110]⟩, .int .i64 31, .string ⟨#[98, 101, 103, 105, 110, 115]⟩, .int .i64 32, .string ⟨#[104, 111, 108, 100, 115]⟩, .int .i64 33, .string ⟨#[121, 101, 97, 114]⟩, .int .i64 34, .string ⟨#[109, 111, 110, 116, 104]⟩, .int .i64 35, .string ⟨#[100, 97, 121]⟩, .int .i64 36, .string ⟨#[100, 97, 121, 115]⟩, .int .i64 37, .string ⟨#[97, 103, 101]⟩, .int .i64 38, .string ⟨#[108, 97, 116, 101, 114]⟩, .int .i64 39]) (by simp) (by decide), (Below.refl _ w).alloc (Nat.le_refl _) _⟩
theorem Cb {w w' : World} {B : Nat} {A : Option Addr} {l : List (ByteArray × Int)} (h : lL BO 2 w B A l) (hb : Below B w w') : lL BO 2 w' B A l := lL.keep (w := w) (w' := w') (fun _ _ h => h) h hb
def tx (l : List UInt8) : ByteArray := ⟨l.toArray⟩
theorem uP (ad : Addr) : ad.add 0 = ad := by unfold Addr.add; simp
def yJ : List ByteArray := RD.map tx
theorem D7 (w : World) : Calls Tryz.prog 22 #[] w fun e w' => ∃ ad, e = .returned (.slice (some ad) 7 7) ∧ xg w' w'.heap.size (some ad) yJ ∧ Below w.heap.size w w' := by
 go_enter Tryz.func22, Tryz.ntmps22
 go_wp2_with fail
 go_ret
 refine ⟨_, rfl, ⟨rfl, fun _ => ⟨_, rfl, by simp, fun j u hu => ?_⟩⟩, (Below.refl _ w).alloc (Nat.le_refl _) _⟩
 have e : (⟨w.heap.size, 0, none⟩ : Addr).add j = ⟨w.heap.size, j, none⟩ := by unfold Addr.add; split <;> simp_all
 rw [e, (af.new w 9 #[.string ⟨#[]⟩, .string ⟨#[115, 117, 109]⟩, .string ⟨#[99, 111, 117, 110, 116]⟩, .string ⟨#[97, 110, 121]⟩, .string ⟨#[97, 108, 108]⟩, .string ⟨#[108, 101, 97, 115, 116]⟩, .string ⟨#[109, 111, 115, 116]⟩]).cell j]
 rw [← hu]
 have e2 : (Gu yJ).toArray = #[.string ⟨#[]⟩, .string ⟨#[115, 117, 109]⟩, .string ⟨#[99, 111, 117, 110, 116]⟩, .string ⟨#[97, 110, 121]⟩, .string ⟨#[97, 108, 108]⟩, .string ⟨#[108, 101, 97, 115, 116]⟩, .string ⟨#[109, 111, 115, 116]⟩] := by kernel_rfl
 rw [← e2]; simp
end Go.Proofs.YtobanldeicclmaaGreatDoor
namespace Go.Proofs.YtobanldeicclmaaGreatDoor
open Go.RowKit Vtx
def qK (l : List Tok) (sg : List (ByteArray × Int)) : Int := sg.foldl (fun o d => if kU l d.1.data.toList then d.2 else o) 0
theorem PG (l : List Tok) (a : List (ByteArray × Int)) (d : ByteArray × Int) : qK l (a ++ [d]) = if kU l d.1.data.toList then d.2 else qK l a := by simp [qK, List.foldl_append]
def Ls (b : Bool) (x w : List UInt8) : Bool := !b && decide (x = w)
def GI (b : Bool) (x : List UInt8) (a c : Int) : Int := if Ls b x [] then 0 else match ([4, 5, 6, 7, 8, 9, 10, 11, 15, 16, 17, 18, 19] : List Int).find? (fun o => decide (a ≤ o) && decide (o ≤ c) && decide (iQ o ≠ []) && Ls b x (iQ o)) with
 | some o => o
 | none => 0
def Lt (b : Bool) (x : List UInt8) (sg : List (ByteArray × Int)) : Int := sg.foldl (fun o d => if Ls b x d.1.data.toList then d.2 else o) 0
theorem ry (a c : Int) (t : Tok) (r : List Tok) : bJ a c (t :: r) = GI t.touch t.tx a c := rfl
theorem Jq (t : Tok) (r : List Tok) (sg : List (ByteArray × Int)) : qK (t :: r) sg = Lt t.touch t.tx sg := rfl
theorem Cc (x : List UInt8) (a c : Int) : GI true x a c = 0 := by
 unfold GI
 rw [if_neg (by simp [Ls]), List.find?_eq_none.2 (fun o _ => by simp [Ls])]
theorem TU (b : Bool) (x : List UInt8) : Lt b x wB = GI b x 15 16 := by
 cases b
 ·
  by_cases h1 : x = [43]
  ·
   subst h1; decide
  ·
   by_cases h2 : x = [45]
   ·
    subst h2; decide
   ·
    simp [Lt, GI, Ls, wB, iQ, h1, h2]
 ·
  rw [Cc]; simp [Lt, Ls, wB]
theorem TV (b : Bool) (x : List UInt8) : Lt b x wC = GI b x 17 19 := by
 cases b
 ·
  by_cases h1 : x = [42]
  ·
   subst h1; decide
  ·
   by_cases h2 : x = [47]
   ·
    subst h2; decide
   ·
    by_cases h3 : x = [109, 111, 100]
    ·
     subst h3; decide
    ·
     simp [Lt, GI, Ls, wC, iQ, h1, h2, h3]
 ·
  rw [Cc]; simp [Lt, Ls, wC]
theorem PH (l : List Tok) : qK l wB = bJ 15 16 l := by
 cases l with
 | nil => rfl
 | cons t r => rw [Jq, ry, TU]
theorem PI (l : List Tok) : qK l wC = bJ 17 19 l := by
 cases l with
 | nil => rfl
 | cons t r => rw [Jq, ry, TV]
theorem Lu {l : List Tok} {k : Nat} (hk : k < lC.length) (hno : ∀ d ∈ lC.take k, kU l d.1.data.toList = false) (hy : kU l lC[k].1.data.toList = true) : bJ 4 11 l = lC[k].2 := by
 cases l with
 | nil => cases hy
 | cons t r =>
  rw [ry]
  have hy : Ls t.touch t.tx lC[k].1.data.toList = true := hy
  unfold Ls at hy
  rw [Bool.and_eq_true, decide_eq_true_iff] at hy
  obtain ⟨hy1, hy2⟩ := hy
  have hk8 : k < 8 := hk
  have ht : t.touch = false := by simpa using hy1
  clear hno hy1
  rw [ht, hy2]
  clear ht hy2 hy
  obtain rfl | rfl | rfl | rfl | rfl | rfl | rfl | rfl : k = 0 ∨ k = 1 ∨ k = 2 ∨ k = 3 ∨ k = 4 ∨ k = 5 ∨ k = 6 ∨ k = 7 := by omega
  all_goals decide +revert
theorem PK {l : List Tok} (hno : ∀ d ∈ lC, kU l d.1.data.toList = false) : bJ 4 11 l = 0 := by
 cases l with
 | nil => rfl
 | cons t r =>
  rw [ry]
  have hno : ∀ d ∈ lC, Ls t.touch t.tx d.1.data.toList = false := hno
  obtain ⟨b, hb⟩ := ae (t.touch)
  obtain ⟨x, hx⟩ := ae (t.tx)
  rw [hb, hx] at hno ⊢
  cases b
  ·
   simp only [lC, List.forall_mem_cons, Ls, Bool.not_false, Bool.true_and, decide_eq_false_iff_not] at hno
   obtain ⟨h1, h2, h3, h4, h5, h6, h7, h8, -⟩ := hno
   simp [GI, Ls, iQ, h1, h2, h3, h4, h5, h6, h7, h8]
  ·
   exact Cc _ _ _
theorem PL (w : World) : Calls Tryz.prog 76 #[] w fun e w' => e = .returned (.slice (some ⟨w.heap.size, 0, none⟩) wB.length wB.length) ∧ af w' w.heap.size 83 (ni wB).toArray ∧ Below w.heap.size w w' := by
 go_enter Tryz.func76, Tryz.ntmps76
 go_wp2_with fail
 go_ret
 have e : (ni wB).toArray = #[.string ⟨#[43]⟩, .int .i64 15, .string ⟨#[45]⟩, .int .i64 16] := by kernel_rfl
 exact ⟨rfl, by rw [e]; exact af.new w 83 #[.string ⟨#[43]⟩, .int .i64 15, .string ⟨#[45]⟩, .int .i64 16], (Below.refl _ w).alloc (Nat.le_refl _) _⟩
theorem PM (w : World) : Calls Tryz.prog 77 #[] w fun e w' => e = .returned (.slice (some ⟨w.heap.size, 0, none⟩) wC.length wC.length) ∧ af w' w.heap.size 83 (ni wC).toArray ∧ Below w.heap.size w w' := by
 go_enter Tryz.func77, Tryz.ntmps77
 go_wp2_with fail
 go_ret
 have e : (ni wC).toArray = #[.string ⟨#[42]⟩, .int .i64 17, .string ⟨#[47]⟩, .int .i64 18, .string ⟨#[109, 111, 100]⟩, .int .i64 19] := by kernel_rfl
 exact ⟨rfl, by rw [e]; exact af.new w 83 #[.string ⟨#[42]⟩, .int .i64 17, .string ⟨#[47]⟩, .int .i64 18, .string ⟨#[109, 111, 100]⟩, .int .i64 19], (Below.refl _ w).alloc (Nat.le_refl _) _⟩
theorem Ce : uA = kz.map (fun d => (d.2, d.1.data.toList)) := by decide
theorem LC {w : List UInt8} {k : Nat} (hk : k < kz.length) (hno : ∀ d ∈ kz.take k, d.1.data.toList ≠ w) (hy : kz[k].1.data.toList = w) : gm w = kz[k].2 := by
 unfold gm
 have h : uA.find? (fun p => decide (p.2 = w)) = some (kz[k].2, kz[k].1.data.toList) := by
  rw [Ce, List.find?_eq_some_iff_append]
  refine ⟨by simpa using hy, (kz.take k).map (fun d => (d.2, d.1.data.toList)), (kz.drop (k + 1)).map (fun d => (d.2, d.1.data.toList)), ?_, ?_⟩
  ·
   rw [show ((kz[k].2, kz[k].1.data.toList) :: (kz.drop (k + 1)).map (fun d => (d.2, d.1.data.toList))) = (kz[k] :: kz.drop (k + 1)).map (fun d => (d.2, d.1.data.toList)) from rfl, ← List.drop_eq_getElem_cons hk, ← List.map_append, List.take_append_drop]
  ·
   intro x hx
   obtain ⟨d, hd, rfl⟩ := List.mem_map.1 hx
   simpa using hno d hd
 rw [h]
theorem PN {w : List UInt8} (hno : ∀ d ∈ kz, d.1.data.toList ≠ w) : gm w = 0 := by
 unfold gm
 rw [List.find?_eq_none.2 (fun p hp => by rw [Ce] at hp; obtain ⟨d, hd, rfl⟩ := List.mem_map.1 hp; simpa using hno d hd)]
end Go.Proofs.YtobanldeicclmaaGreatDoor
namespace Go.Proofs.YtobanldeicclmaaGreatDoor
open Go.RowKit Vtx
attribute [local go_sem ↓] Go.wp_at_zero Go.wp_at_succ
theorem rC {w w5 : World} {g i : Nat} {s : ByteArray} {x : Ex} {A A' : Option Addr} {c c' : Nat} {L : Nat} (hx : dK w5 (fun b => L ≤ b) w5.heap.size x (ai x A c A' c')) (hW : w.heap.size < L) (hg : g < w.heap.size) (hp : aP w5 g s i) (hk : Kp g w w5) :
  ui w g s (.ok [x] (wordsOf s.data.toList i)) (.returned (.agg #[.int .i64 x.k, .int .i64 x.op, .string x.nm, .int .i64 x.v.k, .int .i64 x.v.n, .string x.v.s, .slice A x.v.l.length c, .slice A' x.ar.length c'])) (dU w5 w.heap.size (.int .i64 x.k) (.int .i64 x.op) (.string x.nm) (.int .i64 x.v.k) (.int .i64 x.v.n) (.string x.v.s) (.slice A x.v.l.length c) (.slice A' x.ar.length c')) := by
 have hst : dG (fun b => L ≤ b) w5 (dU w5 w.heap.size (.int .i64 x.k) (.int .i64 x.op) (.string x.nm) (.int .i64 x.v.k) (.int .i64 x.v.n) (.string x.v.s) (.slice A x.v.l.length c) (.slice A' x.ar.length c')) :=
  ⟨by rw [df]; exact Nat.le_refl _, fun k hk hl => by rw [dD _ _ _ _ _ _ _ _ _ _ k (by omega)]⟩
 exact ⟨x, i, ai x A c A' c', rfl, rfl, rfl, ((hx.keep hst).up hst.1).imp (fun k hk _ => by omega), hp.kp (dD _ _ _ _ _ _ _ _ _ _ g (by omega)), fF hk (Nat.le_refl _) _ _ _ _ _ _ _ _⟩
theorem addr_add (b o n : Nat) : (⟨b, o, none⟩ : Addr).add n = ⟨b, o + n, none⟩ := by unfold Addr.add; split <;> simp_all
theorem TW {w : World} {g i j : Nat} {s : ByteArray} (h : aP w g s i) (h' : aP w g s j) : wordsOf s.data.toList i = wordsOf s.data.toList j := by
 have e := h.b.symm.trans h'.b
 have ea : (#[.string s, .int .i64 (aO s i : Nat), .string (tb (aH s i)), .bool (gq s i)] : Array Value) = #[.string s, .int .i64 (aO s j : Nat), .string (tb (aH s j)), .bool (gq s j)] := by
  injection e with e
  injection e
 have el := congrArg Array.toList ea
 simp only [List.cons.injEq, Value.int.injEq, Value.string.injEq, Value.bool.injEq, true_and, and_true] at el
 obtain ⟨e1, e2, e3⟩ := el
 have e1 : aO s i = aO s j := by omega
 have e2 := uK e2
 unfold aO at e1
 unfold aH at e2
 unfold gq at e3
 rw [eQ s.data.toList i, eQ s.data.toList j]
 cases hi : bV s.data.toList i with
 | none =>
  cases hj : bV s.data.toList j with
  | none => rfl
  | some u =>
   rw [hi, hj] at e2
   have h1 := (dW hj).2.2.1
   have e2 : [] = u.tx := e2
   rw [← e2] at h1
   exact absurd h1 (by simp)
 | some t =>
  cases hj : bV s.data.toList j with
  | none =>
   rw [hi, hj] at e2
   have h1 := (dW hi).2.2.1
   have e2 : t.tx = [] := e2
   rw [e2] at h1
   exact absurd h1 (by simp)
  | some u =>
   rw [hi, hj] at e1 e2 e3
   obtain ⟨a, b, c⟩ := t
   obtain ⟨a', b', c'⟩ := u
   simp only at e1 e2 e3
   subst e1 e2 e3
   rfl
open Classical in
noncomputable def Wj (w : World) (g : Nat) (s : ByteArray) : Nat := if h : ∃ i, aP w g s i then (wordsOf s.data.toList h.choose).length else 0
theorem TY {w : World} {g i : Nat} {s : ByteArray} (h : aP w g s i) : Wj w g s = (wordsOf s.data.toList i).length := by
 have hex : ∃ i, aP w g s i := ⟨i, h⟩
 unfold Wj
 rw [dif_pos hex, TW hex.choose_spec h]
theorem oh {s : ByteArray} {i : Nat} (h : wordsOf s.data.toList i ≠ []) : wordsOf s.data.toList (aO s i + (aH s i).length) = (wordsOf s.data.toList i).tail ∧ (wordsOf s.data.toList (aO s i + (aH s i).length)).length + 1 = (wordsOf s.data.toList i).length := by
 unfold aO aH
 rw [eQ s.data.toList i] at h ⊢
 cases ht : bV s.data.toList i with
 | none => rw [ht] at h; exact absurd rfl h
 | some t => exact ⟨rfl, rfl⟩
theorem xm {a b : Int} {l : List Tok} (h : bJ a b l ≠ 0) : l ≠ [] := by
 rintro rfl
 exact h (by unfold bJ; rw [if_neg (by simp [kU]), List.find?_eq_none.2 (fun o _ => by simp [kU])])
theorem Wl {w : World} {b B : Nat} {e : TypeId} {cs ds : List Value} (h : af w b e (cs ++ ds).toArray) (hB : B ≤ b) (hc : cs.length = 8) (hd : ds.length = 8) : w.ownsRow B e 8 (.slice (some ⟨b, 0, none⟩) 2 2) 2 (cs ++ ds) :=
 ⟨by simp [hc, hd], .inr ⟨b, 2, (cs ++ ds).toArray, rfl, hB, h, Nat.le_refl _, by unfold maxLen; omega, by simp [hc, hd], by rw [show 2 * 8 = (cs ++ ds).length by simp [hc, hd]]; exact List.take_length⟩⟩
theorem iw.two {w : World} {p : Nat → Prop} {e f : Ex} {cs ds : List Value} (he : dK w p w.heap.size e cs) (hf : dK w p w.heap.size f ds) : iw w p [e, f] [cs, ds] := (iw.one he).snoc hf
theorem uQ {w : World} {p : Nat → Prop} {B : Nat} {es : List Ex} {css : List (List Value)} {A : Option Addr} {c : Nat} (o : Int) (h : iw w p es css) (hL : ∀ k, B ≤ k → p k) (ho : w.ownsRow B 27 8 (.slice A es.length c) es.length css.flatten) (hm : es.length ≤ maxLen) :
  dK w p w.heap.size (bQ o es) (ai (bQ o es) none 0 A c) := by
 have hA : ∀ ad, A = some ad → p ad.block := fun ad e => by
  subst e
  rcases ho.2 with ⟨h0, -⟩ | ⟨g', cap, cur, e0, e1, -⟩
  ·
   cases h0
  ·
   injection e0 with e0 _ _
   injection e0 with e0
   subst e0
   exact hL _ e1
 refine dK.mk (e := bQ o es) (A := none) (c := 0) (A' := A) (c' := c) (cs := css.flatten) (show 0 ≤ maxLen from Nat.zero_le _) (show 0 ≤ maxLen from Nat.zero_le _) (show 0 ≤ maxLen from Nat.zero_le _) hm ⟨Reads.none_, fun _ ad e => by cases e⟩ ⟨Reads.uq ho, fun _ => hA⟩ (fun i hi => ?_)
 have hi' : i < css.length := by rw [← h.len]; exact hi
 rw [NZ css h.cells i hi']
 exact h.ex i hi hi'
theorem LD {q : Nat → Prop} {w5 w6 : World} {y y2 : Ex} {A A' A3 A4 : Option Addr} {c c' c3 c4 : Nat} (o : Int) (hy : dK w5 q w5.heap.size y (ai y A c A' c')) (hy2 : dK w5 q w5.heap.size y2 (ai y2 A3 c3 A4 c4))
  (hb6 : Below (w5.alloc (.cells (ai y A c A' c' ++ ai y2 A3 c3 A4 c4).toArray 27 (0, 0))).heap.size (w5.alloc (.cells (ai y A c A' c' ++ ai y2 A3 c3 A4 c4).toArray 27 (0, 0))) w6) (hq : ∀ k, w5.heap.size ≤ k → q k) :
  dK w6 q w6.heap.size (bQ o [y, y2]) (ai (bQ o [y, y2]) none 0 (some ⟨w5.heap.size, 0, none⟩) 2) := by
 have hs1 : dG q w5 (w5.alloc (.cells (ai y A c A' c' ++ ai y2 A3 c3 A4 c4).toArray 27 (0, 0))) := dG.of ((Below.refl _ _).alloc (Nat.le_refl _) _)
 have hs2 : dG q _ w6 := dG.of hb6
 have B6 : af w6 w5.heap.size 27 (ai y A c A' c' ++ ai y2 A3 c3 A4 c4).toArray := (af.new w5 _ _).below hb6 (af.new w5 _ _).lt
 exact uQ (B := w5.heap.size) o (iw.two (((hy.keep hs1).keep hs2).up (Nat.le_trans hs1.1 hs2.1)) (((hy2.keep hs1).keep hs2).up (Nat.le_trans hs1.1 hs2.1))) hq (by simpa using Wl B6 (Nat.le_refl _) (uN hy) (uN hy2)) (show 2 ≤ maxLen by decide)
theorem GK {q : Nat → Prop} {w5 w6 : World} {y : Ex} {A A' : Option Addr} {c c' : Nat} (o : Int) (hy : dK w5 q w5.heap.size y (ai y A c A' c'))
  (hb6 : Below (w5.alloc (.cells (ai y A c A' c').toArray 27 (0, 0))).heap.size (w5.alloc (.cells (ai y A c A' c').toArray 27 (0, 0))) w6) (hq : ∀ k, w5.heap.size ≤ k → q k) :
  dK w6 q w6.heap.size (bQ o [y]) (ai (bQ o [y]) none 0 (some ⟨w5.heap.size, 0, none⟩) 1) := by
 have hs1 : dG q w5 (w5.alloc (.cells (ai y A c A' c').toArray 27 (0, 0))) := dG.of ((Below.refl _ _).alloc (Nat.le_refl _) _)
 have hs2 : dG q _ w6 := dG.of hb6
 have B6 : af w6 w5.heap.size 27 (ai y A c A' c').toArray := (af.new w5 _ _).below hb6 (af.new w5 _ _).lt
 exact uQ (B := w5.heap.size) o (iw.one (((hy.keep hs1).keep hs2).up (Nat.le_trans hs1.1 hs2.1))) hq (by simpa using qB B6 (Nat.le_refl _) (uN hy)) (show 1 ≤ maxLen by decide)
theorem vM {w : World} {q : Nat → Prop} {x : Ex} {cs : List Value} {b : Nat} (h : dK w q w.heap.size x cs) (hq : ∀ k, q k → k ≠ b) (v0 v1 v2 v3 v4 v5 v6 v7 : Value) : dK (dU w b v0 v1 v2 v3 v4 v5 v6 v7) q (dU w b v0 v1 v2 v3 v4 v5 v6 v7).heap.size x cs :=
 (h.keep ⟨by rw [df]; exact Nat.le_refl _, fun k hk _ => dD _ _ _ _ _ _ _ _ _ _ k (hq k hk)⟩).up (by rw [df]; exact Nat.le_refl _)
theorem dK.N7 {w w' : World} {q : Nat → Prop} {g : Nat} {x : Ex} {cs : List Value} (h : dK w q w.heap.size x cs) (hk : Kp g w w') (hq : ∀ k, q k → k ≠ g) : dK w' q w'.heap.size x cs := (h.keep (hk.stay hq)).up hk.size
theorem af.kp {w w' : World} {g b : Nat} {T : TypeId} {a : Array Value} (h : af w b T a) (hk : Kp g w w') (hb : b ≠ g) : af w' b T a := by
 have h1 := hk.block b h.lt (fun e => hb (by injection e))
 (try unfold ZB); unfold af
 rw [h1]; exact h
theorem TM.below {w w' : World} {g : Nat} (h : TM w g) (hb : Below w.heap.size w w') : TM w' g := h.kp (Kp.of hb)
theorem Wn (s : ByteArray) (L : List Tok) (h : ∀ L', L'.length ≤ L.length → fK 55 .and s L') : fK 31 .or s L := by
 intro g i w hp hm hL
 have HC := qh (fun W (Wp : aP W g s i) (hmW : TM W g) => Jo g s i W Wp hmW L hL h)
 rw [show tb QU = ⟨#[111, 114]⟩ from rfl, show ((Pz s.data.toList.length .and [] L).bind fun es l1 => Pz s.data.toList.length .Ia es l1) = Pz s.data.toList.length .or [] L from by rw [bW _ .or]; rfl] at HC
 have jD := qh hp
 have HM := qh hm
 have hlt := hp.b.lt
 obtain ⟨r, hr⟩ := ae (Pz s.data.toList.length .or [] L)
 rw [hr] at HC ⊢
 clear hp hm hr
 go_enter Tryz.func31, Tryz.ntmps31
 go_wp2_with fail
 obtain ⟨W, hW, hkW, BR, -, hWs, -⟩ := dY g w
 have iZ := qh (show aP W g s i by rw [hW]; exact jD.out.alloc _)
 rw [← hW]
 clear hW
 refine (HC.out W iZ.out (HM.out.kp hkW)).mono ?_
 cases r with
 | err k =>
  rintro e w1 ⟨rfl, hk1⟩
  go_wp2_with fail
  exact ⟨rfl, rfl, hkW.trans hk1⟩
 | ok es l1 =>
  rintro e w1 ⟨x, i1, cs1, rfl, rfl, rfl, hx1, hp1, hk1⟩
  have xn := qh hx1
  obtain ⟨hn1, hs1, hl1, ha1, uS, uT, hii1⟩ := hx1
  rename_i A1 c1 A2 c2 Jr
  clear uS uT hii1 hn1 hs1 hl1 ha1
  have oq : (ai x A1 c1 A2 c2).toArray = #[.int .i64 x.k, .int .i64 x.op, .string x.nm, .int .i64 x.v.k, .int .i64 x.v.n, .string x.v.s, .slice A1 x.v.l.length c1, .slice A2 x.ar.length c2] := rfl
  rw [oq]
  clear oq
  have B1 : ZB w1 w.heap.size := by (try unfold ZB); unfold af; rw [hk1.block _ BR.lt (fun e => by injection e with e; omega)]; exact BR
  clear BR
  obtain ⟨aQ, eX, aS, eY, aT, fD, aU, fE, aY, jR, aZ, jS, bu, jT, bz, jU⟩ := af.z8 B1
  go_wp2_with fail
  refine bodyPost_ret (v := .agg #[.int .i64 x.k, .int .i64 x.op, .string x.nm, .int .i64 x.v.k, .int .i64 x.v.n, .string x.v.s, .slice A1 x.v.l.length c1, .slice A2 x.ar.length c2]) (by simp [results, Tryz.results31, go_sem, aQ, aS, aT, aU, aY, aZ, bu, bz]) rfl ?_
  exact rC xn.out hWs hlt hp1 (hkW.trans hk1)
theorem TZ (s : ByteArray) (L : List Tok) (h : ∀ L', L'.length ≤ L.length → fK 86 .not s L') : fK 55 .and s L := by
 intro g i w hp hm hL
 have HC := qh (fun W (Wp : aP W g s i) (hmW : TM W g) => Jp g s i W Wp hmW L hL h)
 rw [show tb zL = ⟨#[97, 110, 100]⟩ from rfl, show ((Pz s.data.toList.length .not [] L).bind fun es l1 => Pz s.data.toList.length .tZ es l1) = Pz s.data.toList.length .and [] L from by rw [bW _ .and]; rfl] at HC
 have jD := qh hp
 have HM := qh hm
 have hlt := hp.b.lt
 obtain ⟨r, hr⟩ := ae (Pz s.data.toList.length .and [] L)
 rw [hr] at HC ⊢
 clear hp hm hr
 go_enter Tryz.func55, Tryz.ntmps55
 go_wp2_with fail
 obtain ⟨W, hW, hkW, BR, -, hWs, -⟩ := dY g w
 have iZ := qh (show aP W g s i by rw [hW]; exact jD.out.alloc _)
 rw [← hW]
 clear hW
 refine (HC.out W iZ.out (HM.out.kp hkW)).mono ?_
 cases r with
 | err k =>
  rintro e w1 ⟨rfl, hk1⟩
  go_wp2_with fail
  exact ⟨rfl, rfl, hkW.trans hk1⟩
 | ok es l1 =>
  rintro e w1 ⟨x, i1, cs1, rfl, rfl, rfl, hx1, hp1, hk1⟩
  have xn := qh hx1
  obtain ⟨hn1, hs1, hl1, ha1, uS, uT, hii1⟩ := hx1
  rename_i A1 c1 A2 c2 Jr
  clear uS uT hii1 hn1 hs1 hl1 ha1
  have oq : (ai x A1 c1 A2 c2).toArray = #[.int .i64 x.k, .int .i64 x.op, .string x.nm, .int .i64 x.v.k, .int .i64 x.v.n, .string x.v.s, .slice A1 x.v.l.length c1, .slice A2 x.ar.length c2] := rfl
  rw [oq]
  clear oq
  have B1 : ZB w1 w.heap.size := by (try unfold ZB); unfold af; rw [hk1.block _ BR.lt (fun e => by injection e with e; omega)]; exact BR
  clear BR
  obtain ⟨aQ, eX, aS, eY, aT, fD, aU, fE, aY, jR, aZ, jS, bu, jT, bz, jU⟩ := af.z8 B1
  go_wp2_with fail
  refine bodyPost_ret (v := .agg #[.int .i64 x.k, .int .i64 x.op, .string x.nm, .int .i64 x.v.k, .int .i64 x.v.n, .string x.v.s, .slice A1 x.v.l.length c1, .slice A2 x.ar.length c2]) (by simp [results, Tryz.results55, go_sem, aQ, aS, aT, aU, aY, aZ, bu, bz]) rfl ?_
  exact rC xn.out hWs hlt hp1 (hkW.trans hk1)
structure pY (w : World) (g sz : Nat) (l : List Tok) : Prop where
 ex : ∃ A c, af w g 44 #[.slice A l.length c, .int .i64 (sz : Nat), .bool false, .int .i64 0] ∧ mV w (fun b => b < g) w.heap.size 2 A l.length (iT l) ∧ l.length ≤ c
 len : l.length ≤ 4001
def DN (w : World) (g sz k : Nat) : Prop := af w g 44 #[.slice none 0 0, .int .i64 (sz : Nat), .bool true, .int .i64 (k : Nat)]
theorem pY.lt {w : World} {g sz : Nat} {l : List Tok} (h : pY w g sz l) : g < w.heap.size := by obtain ⟨A, c, hb, -⟩ := h.ex; exact hb.lt
theorem pY.below {w w' : World} {g sz : Nat} {l : List Tok} (h : pY w g sz l) (hb : Below w.heap.size w w') : pY w' g sz l := by
 obtain ⟨A, c, h1, h2, h3⟩ := h.ex
 exact ⟨⟨A, c, h1.below hb h1.lt, (h2.keep (dG.of hb)).up hb.size, h3⟩, h.len⟩
theorem pY.alloc {w : World} {g sz : Nat} {l : List Tok} (h : pY w g sz l) (o : Obj) : pY (w.alloc o) g sz l := h.below ((Below.refl _ _).alloc (Nat.le_refl _) _)
theorem DN.below {w w' : World} {g sz k : Nat} (h : DN w g sz k) (hb : Below w.heap.size w w') : DN w' g sz k := af.below h hb (af.lt h)
theorem pY.far {w w' : World} {g sz : Nat} {l : List Tok} (h : pY w g sz l) (hs : w.heap.size ≤ w'.heap.size) (hL : ∀ k, k ≤ g → w'.heap[k]? = w.heap[k]?) : pY w' g sz l := by
 obtain ⟨A, c, h1, h2, h3⟩ := h.ex
 exact ⟨⟨A, c, by (try unfold ZB); unfold af; rw [hL g (Nat.le_refl _)]; exact h1, (h2.keep ⟨hs, fun k hk _ => hL k (Nat.le_of_lt hk)⟩).up hs, h3⟩, h.len⟩
def pk (sz : Nat) (l : List Tok) : List UInt8 × Nat := match l with
 | [] => ([], sz)
 | t :: _ => (bH t, t.at_)
def pkV (p : List UInt8 × Nat) : Value := .agg #[.string (tb p.1), .int .i64 (p.2 : Nat)]
theorem yK : ∀ l : List Tok, (iT l).length = l.length * 2
 | [] => rfl
 | t :: r => by
  have h := yK r
  unfold iT at *
  rw [List.flatMap_cons, List.length_append, h]
  simp [Nat.succ_mul, Nat.add_comm]
theorem pY.head {w : World} {g sz : Nat} {t : Tok} {r : List Tok} (h : pY w g sz (t :: r)) : ∃ ad c, af w g 44 #[.slice (some ad) (r.length + 1) c, .int .i64 (sz : Nat), .bool false, .int .i64 0] ∧ r.length + 1 ≤ c ∧ w.cell? ad = some (.string (tb (bH t))) ∧ w.cell? ⟨ad.block, ad.off + 1, none⟩ = some (.int .i64 (t.at_ : Nat)) ∧ ad.block ≠ g := by
 obtain ⟨A, c, h1, h2, h3⟩ := h.ex
 obtain ⟨ad, rfl, -, hc⟩ := h2.r.2 (by simp)
 have c0 := hc 0 _ rfl
 have c1 := hc 1 _ rfl
 rw [uP] at c0
 exact ⟨ad, c, h1, h3, c0, c1, Nat.ne_of_lt (h2.l (by simp) ad rfl)⟩
theorem Cf (g sz : Nat) (l : List Tok) (w : World) (h : pY w g sz l) : Calls Tryz.prog 17 #[.pointer (some ⟨g, 0, none⟩)] w fun e w' => e = .returned (pkV (pk sz l)) ∧ Below w.heap.size w w' := by
 cases l with
 | nil =>
  obtain ⟨A, c, hb, -, -⟩ := h.ex
  have c0 : w.cell? ⟨g, 0, none⟩ = some (.slice A 0 c) := hb.cell 0
  have c1 : w.cell? ⟨g, 1, none⟩ = some (.int .i64 (sz : Nat)) := hb.cell 1
  have hg := hb.lt
  clear h hb
  go_enter Tryz.func17, Tryz.ntmps17
  go_upto_region 1 with (fail)
  obtain ⟨W, hW⟩ := au (w.alloc (.cells #[.string ⟨#[]⟩, .int .i64 0] 48 (0, 0)))
  have hbW : Below w.heap.size w W := by rw [hW]; exact (Below.refl _ w).alloc (Nat.le_refl _) _
  have BR : af W w.heap.size 48 #[.string ⟨#[]⟩, .int .i64 0] := by rw [hW]; exact af.new w _ _
  obtain ⟨aQ, eX, aS, eY⟩ := af.z2 BR
  have d0 : W.cell? ⟨g, 0, none⟩ = some (.slice A 0 c) := Below.cell_of hbW c0
  have d1 : W.cell? ⟨g, 1, none⟩ = some (.int .i64 (sz : Nat)) := Below.cell_of hbW c1
  rw [← hW]
  clear hW BR
  go_wp2_with fail
  refine bodyPost_ret (v := .agg #[.string ⟨#[]⟩, .int .i64 (sz : Nat)]) (by simp [results, Tryz.results17, go_sem, aQ, aS]) rfl ⟨rfl, ?_⟩
  exact (hbW.setCell (p := ⟨w.heap.size, 0, none⟩) (Nat.le_refl _) _).setCell (p := ⟨w.heap.size, 1, none⟩) (Nat.le_refl _) _
 | cons t r =>
  obtain ⟨ad, c, hb, hc, k0, k1, -⟩ := h.head
  have c0 : w.cell? ⟨g, 0, none⟩ = some (.slice (some ad) (r.length + 1) c) := hb.cell 0
  have hg := hb.lt
  obtain ⟨v, hv⟩ := ae (tb (bH t))
  have HV := qh hv
  rw [hv] at k0
  have hrl : (0 : Int) < ((r.length + 1 : Nat) : Int) := by omega
  clear h hb hv
  go_enter Tryz.func17, Tryz.ntmps17
  go_upto_region 1 with (fail)
  obtain ⟨W, hW⟩ := au (w.alloc (.cells #[.string ⟨#[]⟩, .int .i64 0] 48 (0, 0)))
  have hbW : Below w.heap.size w W := by rw [hW]; exact (Below.refl _ w).alloc (Nat.le_refl _) _
  have BR : af W w.heap.size 48 #[.string ⟨#[]⟩, .int .i64 0] := by rw [hW]; exact af.new w _ _
  obtain ⟨aQ, eX, aS, eY⟩ := af.z2 BR
  have d0 : W.cell? ⟨g, 0, none⟩ = some (.slice (some ad) (r.length + 1) c) := Below.cell_of hbW c0
  have d1 : W.cell? ad = some (.string v) := Below.cell_of hbW k0
  have d2 : W.cell? ⟨ad.block, ad.off + 1, none⟩ = some (.int .i64 (t.at_ : Nat)) := Below.cell_of hbW k1
  have hz : ((r.length : Int) + 1 == 0) = false := by simp; omega
  have hz2 : (0 : Int) < (r.length : Int) + 1 := by omega
  rw [← hW]
  clear hW BR
  go_wp2_with fail
  refine bodyPost_ret (v := .agg #[.string v, .int .i64 (t.at_ : Nat)]) (by simp [results, Tryz.results17, go_sem, aQ, aS]) rfl ⟨by rw [← HV.out]; rfl, ?_⟩
  exact (hbW.setCell (p := ⟨w.heap.size, 0, none⟩) (Nat.le_refl _) _).setCell (p := ⟨w.heap.size, 1, none⟩) (Nat.le_refl _) _
theorem GL (g sz k : Nat) (w : World) (h : DN w g sz k) : Calls Tryz.prog 17 #[.pointer (some ⟨g, 0, none⟩)] w fun e w' => e = .returned (pkV ([], sz)) ∧ Below w.heap.size w w' := by
 have c0 : w.cell? ⟨g, 0, none⟩ = some (.slice none 0 0) := af.cell h 0
 have c1 : w.cell? ⟨g, 1, none⟩ = some (.int .i64 (sz : Nat)) := af.cell h 1
 clear h
 go_enter Tryz.func17, Tryz.ntmps17
 go_upto_region 1 with (fail)
 obtain ⟨W, hW⟩ := au (w.alloc (.cells #[.string ⟨#[]⟩, .int .i64 0] 48 (0, 0)))
 have hbW : Below w.heap.size w W := by rw [hW]; exact (Below.refl _ w).alloc (Nat.le_refl _) _
 have BR : af W w.heap.size 48 #[.string ⟨#[]⟩, .int .i64 0] := by rw [hW]; exact af.new w _ _
 obtain ⟨aQ, eX, aS, eY⟩ := af.z2 BR
 have d0 : W.cell? ⟨g, 0, none⟩ = some (.slice none 0 0) := Below.cell_of hbW c0
 have d1 : W.cell? ⟨g, 1, none⟩ = some (.int .i64 (sz : Nat)) := Below.cell_of hbW c1
 rw [← hW]
 clear hW BR
 go_wp2_with fail
 refine bodyPost_ret (v := .agg #[.string ⟨#[]⟩, .int .i64 (sz : Nat)]) (by simp [results, Tryz.results17, go_sem, aQ, aS]) rfl ⟨rfl, ?_⟩
 exact (hbW.setCell (p := ⟨w.heap.size, 0, none⟩) (Nat.le_refl _) _).setCell (p := ⟨w.heap.size, 1, none⟩) (Nat.le_refl _) _
theorem oO (o : Int) (A : Option Addr) (n : Nat) (c : Nat) (w : World) :
  Calls Tryz.prog 61 #[.int .i64 o, .slice A n c] w fun e w' => e = .returned (.agg #[.int .i64 4, .int .i64 o, .string ⟨#[]⟩, .int .i64 0, .int .i64 0, .string ⟨#[]⟩, .slice none 0 0, .slice A n c]) ∧ Below w.heap.size w w' := by
 go_enter Tryz.func61, Tryz.ntmps61
 go_wp2
 exact bodyPost_ret (v := .agg #[.int .i64 4, .int .i64 o, .string ⟨#[]⟩, .int .i64 0, .int .i64 0, .string ⟨#[]⟩, .slice none 0 0, .slice A n c]) (by simp [results, Tryz.results61, go_sem]) rfl ⟨rfl, (Below.refl _ w).alloc (Nat.le_refl _) _⟩
theorem pO (W : World) (ad : Addr) (n c : Nat) (hc : n + 1 ≤ c) : (Instr.slice 41 (.slice (some ad) (n + 1) c) (some (.int .i64 1)) none none).run Tryz.prog W = .ok (.slice (if c = 1 then some ad else some (ad.add 2)) n (c - 1)) W := by
 have hs : ∀ w : World, (sizeOf 48).run Tryz.prog w = .ok 2 w := fun w => by kernel_rfl
 have he : Tryz.prog.elem 41 = 48 := by simp [Program.elem, Tryz.underlying41]
 have hu : Tryz.prog.underlying 41 = some (.slice (Tryz.prog.elem 41)) := by rw [he]; exact Tryz.underlying41
 rw [run_slice_l W 41 (some ad) (n + 1) c hu .i64 1 (by omega) (by omega), he, hs]
 simp [Result.andThen, sliced]
theorem pY.tail {w : World} {g sz : Nat} {t : Tok} {r : List Tok} {ad : Addr} {c : Nat} (h : pY w g sz (t :: r)) (hb : af w g 44 #[.slice (some ad) (r.length + 1) c, .int .i64 (sz : Nat), .bool false, .int .i64 0]) (hc : r.length + 1 ≤ c) : pY (w.setCell ⟨g, 0, none⟩ (.slice (if c = 1 then some ad else some (ad.add 2)) r.length (c - 1))) g sz r := by
 obtain ⟨A, c', h1, h2, h3⟩ := h.ex
 have e := h1.symm.trans hb
 have ea : (.slice A (t :: r).length c' : Value) = .slice (some ad) (r.length + 1) c := by
  injection e with e
  injection e with e1
  have el := congrArg Array.toList e1
  simp only [List.cons.injEq, and_true] at el
  exact el
 injection ea with ea1 Vp ea3
 subst ea1 ea3
 have xU : ∀ k, k ≠ g → (w.setCell ⟨g, 0, none⟩ (.slice (if c' = 1 then some ad else some (ad.add 2)) r.length (c' - 1))).heap[k]? = w.heap[k]? := fun k hk => Below.heap_setCell w ⟨g, 0, none⟩ _ k hk
 have hsz : (w.setCell ⟨g, 0, none⟩ (.slice (if c' = 1 then some ad else some (ad.add 2)) r.length (c' - 1))).heap.size = w.heap.size := by simp [World.setCell]
 have hbk := hb.kE 0 (.slice (if c' = 1 then some ad else some (ad.add 2)) r.length (c' - 1))
 refine ⟨⟨_, c' - 1, by simpa using hbk, ?_, by omega⟩, by have := h.len; simp at this; omega⟩
 have hr : mV w (fun b => b < g) w.heap.size 2 (if c' = 1 then some ad else some (ad.add 2)) r.length (iT r) := by
  refine ⟨⟨yK r, fun h0 => ?_⟩, fun h0 ad' e => ?_⟩
  ·
   obtain ⟨ad0, e0, hB, hcell⟩ := h2.r.2 (by simp)
   injection e0 with e0
   subst e0
   refine ⟨ad.add 2, by rw [if_neg (by omega)], by rw [ja]; exact hB, fun j u hu => ?_⟩
   rw [pq]
   refine hcell (2 + j) u ?_
   unfold iT at *
   rw [List.flatMap_cons, List.getElem?_append_right (by simp)]
   simpa using hu
  ·
   rw [if_neg (by omega)] at e
   injection e with e
   subst e
   rw [ja]
   exact h2.l (by simp) ad rfl
 exact (hr.keep ⟨by omega, fun k hk _ => xU k (Nat.ne_of_lt hk)⟩).up (by omega)
def vN (l : List Tok) (word : List UInt8) : Bool := match l with
 | t :: _ => decide (bH t = word)
 | [] => false
theorem jI (l : List Tok) {word : List UInt8} (h : word ≠ [63]) (h' : word ≠ []) : vN l word = kU l word := by
 cases l with
 | nil => rfl
 | cons t r =>
  show decide (bH t = word) = (!t.touch && decide (t.tx = word))
  unfold bH
  cases t.touch
  ·
   simp
  ·
   rw [if_pos rfl, decide_eq_false (fun e => h e.symm)]; rfl
theorem yL (g sz : Nat) (l : List Tok) (w : World) (h : pY w g sz l) (word : List UInt8) :
  Calls Tryz.prog 37 #[.pointer (some ⟨g, 0, none⟩), .string (tb word)] w fun e w' => if vN l word = true then e = .returned (.bool true) ∧ pY w' g sz l.tail ∧ Kp g w w' else e = .returned (.bool false) ∧ w' = w := by
 obtain ⟨b, hb⟩ := ae (vN l word)
 rw [hb]
 have HB := qh hb
 clear hb
 cases l with
 | nil =>
  obtain ⟨A, c, hk, -, -⟩ := h.ex
  have c0 : w.cell? ⟨g, 0, none⟩ = some (.slice A 0 c) := hk.cell 0
  have hbf : b = false := HB.out.symm
  subst hbf
  clear h hk
  go_enter Tryz.func37, Tryz.ntmps37
  go_wp2_with fail
  go_ret
  exact ⟨by rfl, rfl⟩
 | cons t r =>
  have HA := qh h
  obtain ⟨ad, c, hk, hc, k0, k1, ag7⟩ := h.head
  have HK := qh hk
  have c0 : w.cell? ⟨g, 0, none⟩ = some (.slice (some ad) (r.length + 1) c) := hk.cell 0
  have z0 : w.frozen? ⟨g, 0, none⟩ = false := hk.frozen 0
  have hsl := pO w ad r.length c hc
  have hrl : (0 : Int) < ((r.length + 1 : Nat) : Int) := by omega
  obtain ⟨v, hv⟩ := ae (tb (bH t))
  obtain ⟨u, hu⟩ := ae (tb word)
  have hbs : (v.toList == u.toList) = b := by rw [← hv, ← hu, XJ]; exact HB.out
  rw [hv] at k0
  rw [hu]
  clear h hk hv hu
  cases b
  ·
   go_enter Tryz.func37, Tryz.ntmps37
   go_wp2_with fail
   go_ret
   exact ⟨by rfl, rfl⟩
  ·
   have jW := qh (HA.out.tail HK.out hc)
   by_cases hc1 : c = 1
   ·
    subst hc1
    have jW := qh (show pY (w.setCell ⟨g, 0, none⟩ (.slice (some ad) r.length 0)) g sz r from jW.out)
    go_enter Tryz.func37, Tryz.ntmps37
    go_wp2_with fail
    go_ret
    exact ⟨by rfl, jW.out, (iR g w).set 0 _⟩
   ·
    have jW := qh (show pY (w.setCell ⟨g, 0, none⟩ (.slice (some ⟨ad.block, ad.off + 2, none⟩) r.length (c - 1))) g sz r from by have h := jW.out; rw [if_neg hc1] at h; exact h)
    go_enter Tryz.func37, Tryz.ntmps37
    go_wp2_with fail
    go_ret
    exact ⟨by rfl, jW.out, (iR g w).set 0 _⟩
theorem Ci (g sz k : Nat) (w : World) (h : DN w g sz k) (u : ByteArray) : Calls Tryz.prog 37 #[.pointer (some ⟨g, 0, none⟩), .string u] w fun e w' => e = .returned (.bool false) ∧ w' = w := by
 have c0 : w.cell? ⟨g, 0, none⟩ = some (.slice none 0 0) := af.cell h 0
 clear h
 go_enter Tryz.func37, Tryz.ntmps37
 go_wp2_with fail
 go_ret
 exact ⟨by rfl, rfl⟩
theorem xq (w : World) (g sz : Nat) (l : List Tok) (h : pY w g sz l) (KD : ByteArray) (at_ : Nat) : Calls Tryz.prog 16 #[.pointer (some ⟨g, 0, none⟩), .agg #[.string KD, .int .i64 (at_ : Nat)]] w fun e w' => e = .returned (.agg #[.int .i64 0, .int .i64 0, .string ⟨#[]⟩, .int .i64 0, .int .i64 0, .string ⟨#[]⟩, .slice none 0 0, .slice none 0 0]) ∧ DN w' g sz at_ ∧ Kp g w w' := by
 obtain ⟨A, c, hb, -, -⟩ := h.ex
 clear h
 have HB := qh hb
 have hlt := hb.lt
 clear hb
 go_enter Tryz.func16, Tryz.ntmps16
 go_upto_region 1 with (fail)
 obtain ⟨wt, hwt⟩ := au (w.alloc (.cells #[.string KD, .int .i64 (at_ : Nat)] 48 (0, 0)))
 obtain ⟨W, hW⟩ := au (wt.alloc (.cells #[.int .i64 0, .int .i64 0, .string ⟨#[]⟩, .int .i64 0, .int .i64 0, .string ⟨#[]⟩, .slice none 0 0, .slice none 0 0] 27 (0, 0)))
 have hsz1 : wt.heap.size = w.heap.size + 1 := by rw [hwt]; simp
 have BT : af W w.heap.size 48 #[.string KD, .int .i64 (at_ : Nat)] := by rw [hW, hwt]; exact (af.new w _ _).alloc _
 have BR : ZB W (w.heap.size + 1) := by rw [hW, ← hsz1]; exact af.new wt _ _
 have lu := qh (show af W g 44 #[.slice A l.length c, .int .i64 (sz : Nat), .bool false, .int .i64 0] by rw [hW, hwt]; exact (HB.out.alloc _).alloc _)
 have V6 := qh (show Kp g w W by rw [hW, hwt]; exact ((iR g w).alloc _).alloc _)
 rw [← hwt, ← hW]
 clear hwt hW hsz1
 have BP := lu.out
 have c0 := BP.cell 0
 have z0 : W.frozen? ⟨g, 0, none⟩ = false := BP.frozen 0
 have c2 : W.cell? ⟨g, 2, none⟩ = some (.bool false) := BP.cell 2
 have z2 : W.frozen? ⟨g, 2, none⟩ = false := BP.frozen 2
 have c3 := BP.cell 3
 have z3 : W.frozen? ⟨g, 3, none⟩ = false := BP.frozen 3
 have t1 : W.cell? ⟨w.heap.size, 1, none⟩ = some (.int .i64 (at_ : Nat)) := BT.cell 1
 have hne1 : w.heap.size ≠ g := by omega
 have hne2 : w.heap.size + 1 ≠ g := by omega
 have Yx : g ≠ w.heap.size + 1 := by omega
 have ada : g ≠ w.heap.size := by omega
 obtain ⟨aQ, eX, aS, eY, aT, fD, aU, fE, aY, jR, aZ, jS, bu, jT, bz, jU⟩ := af.z8 BR
 clear BP BT BR
 go_upto_region 2 with (fail)
 go_region
 go_wp2_with fail
 refine bodyPost_ret (v := .agg #[.int .i64 0, .int .i64 0, .string ⟨#[]⟩, .int .i64 0, .int .i64 0, .string ⟨#[]⟩, .slice none 0 0, .slice none 0 0]) (by simp [results, Tryz.results16, go_sem, aQ, aS, aT, aU, aY, aZ, bu, bz]) rfl ⟨rfl, ?_, ?_⟩
 ·
  have h3 : af (((W.setCell ⟨g, 2, none⟩ (.bool true)).setCell ⟨g, 3, none⟩ (.int .i64 (at_ : Nat))).setCell ⟨g, 0, none⟩ (.slice none 0 0)) g 44 #[.slice none 0 0, .int .i64 (sz : Nat), .bool true, .int .i64 (at_ : Nat)] := by have h := ((lu.out.kE 2 (.bool true)).kE 3 (.int .i64 (at_ : Nat))).kE 0 (.slice none 0 0); simpa using h
  have h4 : af (dU (((W.setCell ⟨g, 2, none⟩ (.bool true)).setCell ⟨g, 3, none⟩ (.int .i64 (at_ : Nat))).setCell ⟨g, 0, none⟩ (.slice none 0 0)) (w.heap.size + 1) (.int .i64 0) (.int .i64 0) (.string ⟨#[]⟩) (.int .i64 0) (.int .i64 0) (.string ⟨#[]⟩) (.slice none 0 0) (.slice none 0 0)) g 44 #[.slice none 0 0, .int .i64 (sz : Nat), .bool true, .int .i64 (at_ : Nat)] := by
   (try unfold ZB); unfold af
   rw [dD _ _ _ _ _ _ _ _ _ _ _ Yx]
   exact h3
  exact h4.drew
 ·
  exact (fF (((V6.out.set 2 _).set 3 _).set 0 _) (by omega) (.int .i64 0) (.int .i64 0) (.string ⟨#[]⟩) (.int .i64 0) (.int .i64 0) (.string ⟨#[]⟩) (.slice none 0 0) (.slice none 0 0)).trans (Kp.of (Below.refl _ _).drew)
theorem yM (w : World) (g sz k : Nat) (h : DN w g sz k) (KD : ByteArray) (at_ : Nat) : Calls Tryz.prog 16 #[.pointer (some ⟨g, 0, none⟩), .agg #[.string KD, .int .i64 (at_ : Nat)]] w fun e w' => e = .returned (.agg #[.int .i64 0, .int .i64 0, .string ⟨#[]⟩, .int .i64 0, .int .i64 0, .string ⟨#[]⟩, .slice none 0 0, .slice none 0 0]) ∧ DN w' g sz k ∧ Kp g w w' := by
 have hb : af w g 44 #[.slice none 0 0, .int .i64 (sz : Nat), .bool true, .int .i64 (k : Nat)] := h
 clear h
 have HB := qh hb
 have hlt := hb.lt
 clear hb
 go_enter Tryz.func16, Tryz.ntmps16
 go_upto_region 1 with (fail)
 obtain ⟨wt, hwt⟩ := au (w.alloc (.cells #[.string KD, .int .i64 (at_ : Nat)] 48 (0, 0)))
 obtain ⟨W, hW⟩ := au (wt.alloc (.cells #[.int .i64 0, .int .i64 0, .string ⟨#[]⟩, .int .i64 0, .int .i64 0, .string ⟨#[]⟩, .slice none 0 0, .slice none 0 0] 27 (0, 0)))
 have hsz1 : wt.heap.size = w.heap.size + 1 := by rw [hwt]; simp
 have BT : af W w.heap.size 48 #[.string KD, .int .i64 (at_ : Nat)] := by rw [hW, hwt]; exact (af.new w _ _).alloc _
 have BR : ZB W (w.heap.size + 1) := by rw [hW, ← hsz1]; exact af.new wt _ _
 have lu := qh (show af W g 44 #[.slice none 0 0, .int .i64 (sz : Nat), .bool true, .int .i64 (k : Nat)] by rw [hW, hwt]; exact (HB.out.alloc _).alloc _)
 have V6 := qh (show Kp g w W by rw [hW, hwt]; exact ((iR g w).alloc _).alloc _)
 rw [← hwt, ← hW]
 clear hwt hW hsz1
 have BP := lu.out
 have c0 := BP.cell 0
 have z0 : W.frozen? ⟨g, 0, none⟩ = false := BP.frozen 0
 have c2 : W.cell? ⟨g, 2, none⟩ = some (.bool true) := BP.cell 2
 have z2 : W.frozen? ⟨g, 2, none⟩ = false := BP.frozen 2
 have c3 := BP.cell 3
 have z3 : W.frozen? ⟨g, 3, none⟩ = false := BP.frozen 3
 have t1 : W.cell? ⟨w.heap.size, 1, none⟩ = some (.int .i64 (at_ : Nat)) := BT.cell 1
 have hne1 : w.heap.size ≠ g := by omega
 have hne2 : w.heap.size + 1 ≠ g := by omega
 have Yx : g ≠ w.heap.size + 1 := by omega
 have ada : g ≠ w.heap.size := by omega
 obtain ⟨aQ, eX, aS, eY, aT, fD, aU, fE, aY, jR, aZ, jS, bu, jT, bz, jU⟩ := af.z8 BR
 clear BP BT BR
 go_wp2_with fail
 refine bodyPost_ret (v := .agg #[.int .i64 0, .int .i64 0, .string ⟨#[]⟩, .int .i64 0, .int .i64 0, .string ⟨#[]⟩, .slice none 0 0, .slice none 0 0]) (by simp [results, Tryz.results16, go_sem, aQ, aS, aT, aU, aY, aZ, bu, bz]) rfl ⟨rfl, ?_, ?_⟩
 ·
  have h3 : af (W.setCell ⟨g, 0, none⟩ (.slice none 0 0)) g 44 #[.slice none 0 0, .int .i64 (sz : Nat), .bool true, .int .i64 (k : Nat)] := by have h := lu.out.kE 0 (.slice none 0 0); simpa using h
  have h4 : af (dU (W.setCell ⟨g, 0, none⟩ (.slice none 0 0)) (w.heap.size + 1) (.int .i64 0) (.int .i64 0) (.string ⟨#[]⟩) (.int .i64 0) (.int .i64 0) (.string ⟨#[]⟩) (.slice none 0 0) (.slice none 0 0)) g 44 #[.slice none 0 0, .int .i64 (sz : Nat), .bool true, .int .i64 (k : Nat)] := by
   (try unfold ZB); unfold af
   rw [dD _ _ _ _ _ _ _ _ _ _ _ Yx]
   exact h3
  exact h4
 ·
  exact fF (V6.out.set 0 _) (by omega) _ _ _ _ _ _ _ _
theorem Cj (n : Nat) (l : List Tok) : (pk n l).2 = dO n l := by cases l <;> rfl
theorem Ua (g sz : Nat) (l : List Tok) (w : World) (h : pY w g sz l) (word : List UInt8) :
  Calls Tryz.prog 172 #[.pointer (some ⟨g, 0, none⟩), .string (tb word)] w fun e w' => e = .returned (.tuple #[]) ∧ Kp g w w' ∧ (if vN l word = true then pY w' g sz l.tail else DN w' g sz (dO sz l)) := by
 have HR := qh h
 have lh := qh (yL g sz l w h word)
 obtain ⟨b, hb⟩ := ae (vN l word)
 rw [hb] at lh ⊢
 obtain ⟨p, hp⟩ := ae (pk sz l)
 have kY := qh (Cf g sz l w h)
 have hpl : dO sz l = p.2 := by rw [← Cj, hp]
 rw [hpl]
 rw [hp] at kY
 obtain ⟨px, pa⟩ := p
 obtain ⟨v, hv⟩ := ae (tb px)
 have kY := qh (show Calls Tryz.prog 17 #[.pointer (some ⟨g, 0, none⟩)] w fun e w' => e = .returned (.agg #[.string v, .int .i64 (pa : Nat)]) ∧ Below w.heap.size w w' from by rw [← hv]; exact kY.out)
 clear h hb hp hpl hv
 go_enter Tryz.func172, Tryz.ntmps172
 go_wp2_with fail
 refine lh.out.mono ?_
 intro e w1 htk
 cases b
 ·
  rw [if_neg (by decide)] at htk
  obtain ⟨rfl, rfl⟩ := htk
  go_wp2_with fail
  refine kY.out.mono ?_
  rintro e w2 ⟨rfl, hb2⟩
  go_wp2_with fail
  refine (xq w2 g sz l (HR.out.below hb2) v pa).mono ?_
  rintro e w3 ⟨rfl, hw3, hk3⟩
  go_wp2_with fail
  go_end0
  exact ⟨rfl, (Kp.of hb2).trans hk3, hw3⟩
 ·
  rw [if_pos rfl] at htk
  obtain ⟨rfl, hr1, hk1⟩ := htk
  go_wp2_with fail
  go_end0
  exact ⟨rfl, hk1, hr1⟩
theorem Wq (g sz k : Nat) (w : World) (h : DN w g sz k) (u : ByteArray) :
  Calls Tryz.prog 172 #[.pointer (some ⟨g, 0, none⟩), .string u] w fun e w' => e = .returned (.tuple #[]) ∧ Kp g w w' ∧ DN w' g sz k := by
 have HR := qh h
 have kY := qh (show Calls Tryz.prog 17 #[.pointer (some ⟨g, 0, none⟩)] w fun e w' => e = .returned (.agg #[.string ⟨#[]⟩, .int .i64 (sz : Nat)]) ∧ Below w.heap.size w w' from GL g sz k w h)
 go_enter Tryz.func172, Tryz.ntmps172
 go_wp2_with fail
 refine (Ci g sz k w HR.out u).mono ?_
 rintro e w1 ⟨rfl, rfl⟩
 go_wp2_with fail
 refine kY.out.mono ?_
 rintro e w2 ⟨rfl, hb2⟩
 go_wp2_with fail
 refine (yM w2 g sz k (HR.out.below hb2) ⟨#[]⟩ sz).mono ?_
 rintro e w3 ⟨rfl, hw3, hk3⟩
 go_wp2_with fail
 go_end0
 exact ⟨rfl, (Kp.of hb2).trans hk3, hw3⟩
end Go.Proofs.YtobanldeicclmaaGreatDoor
