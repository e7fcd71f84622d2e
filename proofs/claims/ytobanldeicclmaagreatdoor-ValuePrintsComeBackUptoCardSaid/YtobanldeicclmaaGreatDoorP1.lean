/- Small words that the walks of this family share: how a return is closed, a slice that reads as a list, the numbers of the tables. No condition. · A value's parts, and lists of ints as cells, for seats that do not reach Compare. No condition. · The walks of 'slices.Equal' at []int and []uint64. No condition. · The walk of the law's own 'same': two values are equal in all parts. No condition. · The walks of the small callees of Check: 'outside', 'within', 'limits', 'inRange', 'unused'. No condition. · The walks of 'Check' in both packages: which fault a value has. No condition. · Expressions as trees: their parts, levels, the measure with an early end; what is a fault of a part. The plain mathematics: no program in sight. · Expressions as they lie in memory; the count of an expression's parts. -/
import Derived.Test.YtobanldeicclmaaGreatDoorProg
import Derived.WalkKit
import Derived.WalkSpells
import Derived.WalkLawsBesides
import Derived.Lib.Hide
import Derived.Deep.AppendLies
import Derived.Deep.Draws
import Derived.Deep.QuietTactic
import Derived.BigQuiet
import Derived.Laws.OwnMore
import Derived.Laws.Rows
import Derived.Deep.DeepCutAuto
import Derived.Deep.Light
import Derived.Outline
namespace Go.Proofs.YtobanldeicclmaaGreatDoor
open Go.RowKit
/-- A world behind W in which nothing that was in W has turned: the class of worlds for a region whose callees box their arguments. -/
structure Later (W : World) where
  w : World
  h : Below W.heap.size W w
instance (W : World) : Inhabited (Later W) := ⟨⟨W, Below.refl _ _⟩⟩
theorem wp_region_later {P : Program} {id : Nat} {Q : Exit → Act → World → Prop} {a : Act} {w : World} {l : List Oper} (hm : P.follows .mixedOrders = true) (hB : Region.lexB .any l.toArray = true)
    (h : wpQuiet P l.toArray (fun w' => ∃ p : Later w, w' = p.w) (fun a' => ∀ w', (∃ p : Later w, w' = p.w) → Q .normal a' w') l a) : (Code.region id l.toArray true).wp P Q a w :=
  wp_region_quiet (C := fun w' => ∃ p : Later w, w' = p.w) hm hB ⟨⟨w.drew, (Below.refl _ _).drew⟩, rfl⟩ (by simpa using h)
theorem Later.call {P : Program} {f : FuncId} {args : Array Value} {W : World} {v : Value} (h : ∀ w', Below W.heap.size W w' → Calls P f args w' fun e w'' => e = .returned v ∧ Below w'.heap.size w' w'') :
    ∀ p : Later W, Calls P f args p.w fun e w'' => e = .returned v ∧ ∃ q : Later W, w'' = q.w :=
  fun p => (h p.w p.h).mono fun _ _ ⟨he, hb⟩ => ⟨he, ⟨⟨_, p.h.trans (hb.mono p.h.size)⟩, rfl⟩⟩
theorem Later.cell {W : World} {a : Addr} {v : Value} (h : W.cell? a = some v) (p : Later W) : p.w.cell? a = some v := by
  rw [p.h.cell (block_lt_of_cell h)]; exact h
theorem Below.cell_of {W w' : World} {a : Addr} {v : Value} (h : Below W.heap.size W w') (hc : W.cell? a = some v) : w'.cell? a = some v := by
  rw [h.cell (block_lt_of_cell hc)]; exact hc
theorem ret_int {k : IntKind} {a b : Int} (h : a = b) : Ending.returned (.int k a) = .returned (.int k b) := by rw [h]
theorem ret_bool {a b : Bool} (h : a = b) : Ending.returned (.bool a) = .returned (.bool b) := by rw [h]
theorem ret_val {a b : Value} (h : a = b) : Ending.returned a = .returned b := by rw [h]
theorem _root_.Go.RowKit.Below.drewN {B : Nat} {w w' : World} (h : Below B w w') (n : Nat) : Below B w (w'.drewN n) := ⟨h.os, h.tape, h.output, h.size, h.block⟩
theorem strEq_true {a b : ByteArray} (h : a = b) : (a.toList == b.toList) = true := by subst h; simp
theorem strEq_false {a b : ByteArray} (h : a ≠ b) : (a.toList == b.toList) = false := by
  rw [ByteArray.toList_eq, ByteArray.toList_eq, beq_eq_false_iff_ne]
  intro e
  exact h (ByteArray.ext (Array.toList_inj.1 e))
theorem bcell {W w1 : World} (hb : Below W.heap.size W w1) : (∀ b o, b < W.heap.size → w1.cell? ⟨b, o, none⟩ = W.cell? ⟨b, o, none⟩) ∧ (∀ b o, b < W.heap.size → w1.frozen? ⟨b, o, none⟩ = W.frozen? ⟨b, o, none⟩) :=
  ⟨fun b o h => hb.cell (p := ⟨b, o, none⟩) h, fun b o h => hb.frozen (p := ⟨b, o, none⟩) h⟩
theorem block_of_add (a : Addr) (n : Nat) : (a.add n).block = a.block := by unfold Addr.add; split <;> rfl
theorem add_of_add (a : Addr) (i j : Nat) : (a.add i).add j = a.add (i + j) := by
  unfold Addr.add
  by_cases hi : i = 0 <;> by_cases hj : j = 0 <;> simp [hi, hj, Nat.add_assoc]
def Reads (w : World) (B size : Nat) (A : Option Addr) (n : Nat) (xs : List Value) : Prop :=
  xs.length = n * size ∧ (0 < n → ∃ ad, A = some ad ∧ ad.block < B ∧ ∀ j u, xs[j]? = some u → w.cell? (ad.add j) = some u)
section
variable {w w' : World} {B B' size n : Nat} {A : Option Addr} {xs : List Value}
theorem Reads.none_ : Reads w B size A 0 [] := ⟨by simp, fun h => absurd h (by omega)⟩
theorem Reads.at_ {k : Nat} (h : Reads w B 1 A n xs) (hk : k < n) : ∃ ad u, A = some ad ∧ ad.block < B ∧ xs[k]? = some u ∧ w.cell? (ad.add k) = some u := by
  obtain ⟨ad, e, hb, hc⟩ := h.2 (by omega)
  have hl : k < xs.length := by have := h.1; omega
  exact ⟨ad, xs[k], e, hb, List.getElem?_eq_getElem hl, hc k _ (List.getElem?_eq_getElem hl)⟩
theorem Reads.keep (h : Reads w B size A n xs) (hk : ∀ p : Addr, p.block < B → w'.cell? p = w.cell? p) : Reads w' B size A n xs :=
  ⟨h.1, fun hn => by
    obtain ⟨ad, e, hb, hc⟩ := h.2 hn
    exact ⟨ad, e, hb, fun j u hu => (hk _ (by rw [block_of_add]; exact hb)).trans (hc j u hu)⟩⟩
theorem Reads.more (h : Reads w B size A n xs) (hB : B ≤ B') : Reads w B' size A n xs :=
  ⟨h.1, fun hn => by
    obtain ⟨ad, e, hb, hc⟩ := h.2 hn
    exact ⟨ad, e, by omega, hc⟩⟩
theorem Reads.below (h : Reads w B size A n xs) (hb : Below B w w') : Reads w' B size A n xs := h.keep fun _ hp => hb.cell hp
theorem Reads.drew (h : Reads w B size A n xs) : Reads w.drew B size A n xs := h
theorem Reads.drewN (h : Reads w B size A n xs) (k : Nat) : Reads (w.drewN k) B size A n xs := h
theorem Reads.alloc (h : Reads w B size A n xs) (hB : B ≤ w.heap.size) (o : Obj) : Reads (w.alloc o) B size A n xs := h.keep fun p hp => World.cell?_alloc_lt w o p (by omega)
theorem Reads.setCell (h : Reads w B size A n xs) {p : Addr} (hB : B ≤ p.block) (u : Value) : Reads (w.setCell p u) B size A n xs :=
  h.keep fun q hq => World.cell?_setCell_other w p q u (fun e => by subst e; omega)
theorem Reads.grown (h : Reads w B size A n xs) {row : Option Nat} (hg : w.grownBy w' row) (hB : B ≤ w.heap.size) (hr : ∀ g, row = some g → B ≤ g) : Reads w' B size A n xs :=
  h.keep fun p hp => World.cell?_of_block (hg.block p.block (by omega) (fun e => by have := hr _ e.symm; omega))
theorem Reads.cut (h : Reads w B size A n xs) {k cap : Nat} (hk : k ≤ n) (hc : n ≤ cap) :
    Reads w B size (if cap = k then A else A.map (·.add (k * size))) (n - k) (xs.drop (k * size)) := by
  refine ⟨by rw [List.length_drop, h.1, Nat.sub_mul], fun hn => ?_⟩
  obtain ⟨ad, rfl, hb, hcell⟩ := h.2 (by omega)
  rw [if_neg (by omega)]
  refine ⟨ad.add (k * size), rfl, by rw [block_of_add]; exact hb, fun j u hu => ?_⟩
  rw [add_of_add]
  exact hcell _ u (by rw [← hu, List.getElem?_drop])
theorem Reads.of_own {base : Nat} {e : TypeId} {c : Nat} (h : w.ownsRow base e size (.slice A n c) n xs) : Reads w w.heap.size size A n xs := by
  refine ⟨h.1, fun hn => ?_⟩
  obtain ⟨g, cap, hv, _, hlt⟩ := h.form hn
  have hA : A = some ⟨g, 0, none⟩ := by injection hv
  subst hA
  exact ⟨_, rfl, hlt, h.cells (g := g) rfl⟩
end
def Blk (w : World) (g : Nat) (t : TypeId) (cs : Array Value) : Prop := w.heap[g]? = some (.cells cs t (0, 0))
section
variable {w w' : World} {g : Nat} {t : TypeId} {cs : Array Value}
theorem Blk.lt (h : Blk w g t cs) : g < w.heap.size := by
  rcases Nat.lt_or_ge g w.heap.size with hlt | hge
  · exact hlt
  · unfold Blk at h; rw [Array.getElem?_eq_none hge] at h; cases h
theorem Blk.cell (h : Blk w g t cs) (i : Nat) : w.cell? ⟨g, i, none⟩ = cs[i]? := cell_of_row w g i cs t (0, 0) h
theorem Blk.frozen (h : Blk w g t cs) (i : Nat) : w.frozen? ⟨g, i, none⟩ = false := by
  unfold Blk at h
  simp [World.frozen?, h]
theorem Blk.new (w : World) (t : TypeId) (cs : Array Value) : Blk (w.alloc (.cells cs t)) w.heap.size t cs := heap_alloc_new w _
theorem Blk.drew (h : Blk w g t cs) : Blk w.drew g t cs := h
theorem Blk.drewN (h : Blk w g t cs) (n : Nat) : Blk (w.drewN n) g t cs := h
theorem Blk.alloc (h : Blk w g t cs) (o : Obj) : Blk (w.alloc o) g t cs := (Below.heap_alloc w o g h.lt).trans h
theorem Blk.set_ (h : Blk w g t cs) (i : Nat) (u : Value) : Blk (w.setCell ⟨g, i, none⟩ u) g t (cs.setIfInBounds i u) := by
  unfold Blk at h ⊢
  simp [World.setCell, Array.getElem?_modify, h]
theorem Blk.far (h : Blk w g t cs) {p : Addr} (hp : g ≠ p.block) (u : Value) : Blk (w.setCell p u) g t cs := (Below.heap_setCell w p u g hp).trans h
theorem Blk.below {B : Nat} (h : Blk w g t cs) (hb : Below B w w') (hg : g < B) : Blk w' g t cs := (hb.block g hg).trans h
theorem Blk.grown {row : Option Nat} (h : Blk w g t cs) (hb : w.grownBy w' row) (hg : some g ≠ row) : Blk w' g t cs := (hb.block g h.lt hg).trans h
end
end Go.Proofs.YtobanldeicclmaaGreatDoor
namespace Go.Proofs.YtobanldeicclmaaGreatDoor
open Go.RowKit
def numV (k : IntKind) (l : List Int) : List Value := l.map (Value.int k)
theorem numV_get (κ : IntKind) (l : List Int) (k : Nat) (u : Value) (h : (numV κ l)[k]? = some u) : ∃ h : k < l.length, u = .int κ l[k] := by
  unfold numV at h
  rw [List.getElem?_map] at h
  rcases hk : l[k]? with _ | x
  · rw [hk] at h; simp at h
  · rw [hk] at h
    simp at h
    obtain ⟨hl, hx⟩ := List.getElem?_eq_some_iff.1 hk
    exact ⟨hl, by rw [hx, h]⟩
theorem numV_len (κ : IntKind) (l : List Int) : (numV κ l).length = l.length := by simp [numV]
structure Val where
  k : Int
  n : Int
  s : ByteArray
  l : List Int
def sameV (x y : Val) : Bool := decide (x.k = y.k) && decide (x.n = y.n) && decide (x.s = y.s) && decide (x.l = y.l)
end Go.Proofs.YtobanldeicclmaaGreatDoor
namespace Go.Proofs.YtobanldeicclmaaGreatDoor
open Go.RowKit
theorem take_ne {xs ys : List Int} {k : Nat} (h1 : k < xs.length) (h2 : k < ys.length) (h : xs[k] ≠ ys[k]) : decide (xs = ys) = false := by
  rw [decide_eq_false_iff_not]
  rintro rfl
  exact h rfl
theorem take_eq {xs ys : List Int} {k : Nat} (h1 : k < xs.length) (h2 : k < ys.length) (h : xs[k] = ys[k]) (ht : xs.take k = ys.take k) : xs.take (k + 1) = ys.take (k + 1) := by
  rw [List.take_succ_eq_append_getElem h1, List.take_succ_eq_append_getElem h2, h, ht]
theorem take_all {xs ys : List Int} {k : Nat} (h1 : xs.length ≤ k) (h2 : ys.length = xs.length) (ht : xs.take k = ys.take k) : decide (xs = ys) = true := by
  rw [List.take_of_length_le h1, List.take_of_length_le (by omega)] at ht
  simpa using ht
set_option maxHeartbeats 400000 in
theorem equalInt_any (A B : Option Addr) (n c m d B1 B2 : Nat) (xs ys : List Int) (w : World) (hn : n ≤ maxLen) (hm : m ≤ maxLen)
    (hx0 : Reads w B1 1 A n (numV .i64 xs)) (hy0 : Reads w B2 1 B m (numV .i64 ys)) (hB1 : B1 ≤ w.heap.size) (hB2 : B2 ≤ w.heap.size) :
    Calls Tryz.prog 33 #[.slice A n c, .slice B m d] w fun e w' => e = .returned (.bool (decide (xs = ys))) ∧ Below w.heap.size w w' := by
  have hx := hx0.more hB1
  have hy := hy0.more hB2
  clear hx0 hy0 hB1 hB2
  have hxl : n = xs.length := by have := hx.1; rw [numV_len] at this; omega
  have hyl : m = ys.length := by have := hy.1; rw [numV_len] at this; omega
  subst hxl hyl
  unfold maxLen at hn hm
  by_cases hl : xs.length = ys.length
  · have hl0 : ((xs.length : Int) != (ys.length : Int)) = false := by simp [hl]
    have hl1 : xs.length ≤ ys.length := by omega
    have hl2 : ys.length ≤ xs.length := by omega
    clear hl
    go_enter Tryz.func33, Tryz.ntmps33
    go_wp2
    go_loopw [13, 5] (fun i _ wr => ∃ k : Nat, k ≤ xs.length ∧ i = .int .i64 k ∧ Below w.heap.size w wr ∧ xs.take k = ys.take k) (fun i _ _ => xs.length - (intOf i).toNat)
    case atStart => exact ⟨0, Nat.zero_le _, rfl, Below.refl _ _, rfl⟩
    case round =>
      obtain ⟨k, hk1, rfl, hb, hc⟩ := hrel
      have HC := Lib.hid hc
      clear hc hl0
      by_cases h1 : k < xs.length
      · have h2 : k < ys.length := by omega
        obtain ⟨ax, u, rfl, _, hu, hcx⟩ := (hx.below hb).at_ h1
        obtain ⟨ay, v, rfl, _, hv, hcy⟩ := (hy.below hb).at_ h2
        obtain ⟨_, rfl⟩ := numV_get _ _ _ _ hu
        obtain ⟨_, rfl⟩ := numV_get _ _ _ _ hv
        clear hu hv hx hy
        by_cases hz : xs[k] = ys[k]
        · have HS := Lib.hid (take_eq h1 h2 hz HC.out)
          have hz1 : (xs[k] != ys[k]) = false := by simp [hz]
          have HZ := Lib.hid hz1
          clear hz hz1
          go_wp2
          have hz1 := HZ.out
          go_quiet (fail)
          go_wp2
          go_roundw
          case rel => exact ⟨k + 1, by omega, by go_num, hb.drewN _, HS.out⟩
          case measure => simp [intOf]; omega
        · have HS := Lib.hid (take_ne h1 h2 hz)
          have hz1 : (xs[k] != ys[k]) = true := by simp [hz]
          have HZ := Lib.hid hz1
          clear hz hz1
          go_wp2
          have hz1 := HZ.out
          go_quiet (fail)
          go_wp2
          go_ret
          exact ⟨ret_bool (by rw [HS.out]), hb.drewN _⟩
      · have HS := Lib.hid (take_all (by omega) (by omega) HC.out)
        go_wp2
        go_ret
        exact ⟨ret_bool (by rw [HS.out]), hb⟩
  · have hl0 : ((xs.length : Int) != (ys.length : Int)) = true := by simp; omega
    have HS := Lib.hid (show decide (xs = ys) = false by rw [decide_eq_false_iff_not]; rintro rfl; exact hl rfl)
    clear hl
    go_enter Tryz.func33, Tryz.ntmps33
    go_wp2
    go_ret
    exact ⟨ret_bool (by rw [HS.out]), Below.refl _ _⟩
end Go.Proofs.YtobanldeicclmaaGreatDoor
namespace Go.Proofs.YtobanldeicclmaaGreatDoor
open Go.RowKit
set_option maxHeartbeats 400000 in
theorem same_any (x y : Val) (A B : Option Addr) (c d B1 B2 : Nat) (w : World) (hn : x.l.length ≤ maxLen) (hm : y.l.length ≤ maxLen)
    (hx : Reads w B1 1 A x.l.length (numV .i64 x.l)) (hy : Reads w B2 1 B y.l.length (numV .i64 y.l)) (hB1 : B1 ≤ w.heap.size) (hB2 : B2 ≤ w.heap.size) :
    Calls Tryz.prog 12 #[.agg #[.int .i64 x.k, .int .i64 x.n, .string x.s, .slice A x.l.length c], .agg #[.int .i64 y.k, .int .i64 y.n, .string y.s, .slice B y.l.length d]] w
      fun e w' => e = .returned (.bool (sameV x y)) ∧ Below w.heap.size w w' := by
  by_cases h1 : x.k = y.k
  · have b1 : (x.k == y.k) = true := by simp [h1]
    have H1 := Lib.hid h1
    clear h1
    by_cases h2 : x.n = y.n
    · have b2 : (x.n == y.n) = true := by simp [h2]
      have H2 := Lib.hid h2
      clear h2
      by_cases h3 : x.s = y.s
      · have b3 := strEq_true h3
        have HR := Lib.hid (show sameV x y = decide (x.l = y.l) by simp [sameV, H1.out, H2.out, h3])
        clear h3
        go_enter Tryz.func12, Tryz.ntmps12
        go_wp2_with fail
        refine (equalInt_any _ _ _ _ _ _ B1 B2 _ _ _ hn hm ((hx.alloc (by omega) _).alloc (by simp; omega) _) ((hy.alloc (by omega) _).alloc (by simp; omega) _) (by simp; omega) (by simp; omega)).mono ?_
        rintro e w1 ⟨rfl, hb⟩
        go_wp2
        go_ret
        exact ⟨ret_bool (by rw [HR.out]), (((Below.refl _ _).alloc (Nat.le_refl _) _).alloc (by simp) _).trans (hb.mono (by simp; omega))⟩
      · have b3 := strEq_false h3
        have HR := Lib.hid (show sameV x y = false by simp [sameV, h3])
        clear h3
        go_enter Tryz.func12, Tryz.ntmps12
        go_wp2_with fail
        go_ret
        exact ⟨ret_bool (by rw [HR.out]), (((Below.refl _ _).alloc (Nat.le_refl _) _).alloc (by simp) _)⟩
    · have b2 : (x.n == y.n) = false := by simp [h2]
      have HR := Lib.hid (show sameV x y = false by simp [sameV, h2])
      clear h2
      go_enter Tryz.func12, Tryz.ntmps12
      go_wp2_with fail
      go_ret
      exact ⟨ret_bool (by rw [HR.out]), (((Below.refl _ _).alloc (Nat.le_refl _) _).alloc (by simp) _)⟩
  · have b1 : (x.k == y.k) = false := by simp [h1]
    have HR := Lib.hid (show sameV x y = false by simp [sameV, h1])
    clear h1
    go_enter Tryz.func12, Tryz.ntmps12
    go_wp2_with fail
    go_ret
    exact ⟨ret_bool (by rw [HR.out]), (((Below.refl _ _).alloc (Nat.le_refl _) _).alloc (by simp) _)⟩
end Go.Proofs.YtobanldeicclmaaGreatDoor
namespace Go.Proofs.YtobanldeicclmaaGreatDoor
open Go.RowKit
def outB (n lo hi : Int) : Bool := decide (n < lo) || decide (hi < n)
theorem outB_true {n lo hi : Int} (h : n < lo ∨ hi < n) : outB n lo hi = true := by simp [outB]; omega
theorem outB_false {n lo hi : Int} (h : lo ≤ n) (h' : n ≤ hi) : outB n lo hi = false := by simp [outB]; omega
theorem outside_any (a b c : Int) (w : World) :
    Calls Tryz.prog 63 #[.int .i64 a, .int .i64 b, .int .i64 c] w fun e w' => e = .returned (.bool (outB a b c)) ∧ w = w' := by
  by_cases h1 : a < b
  · have HR := Lib.hid (outB_true (.inl h1) : outB a b c = true)
    go_enter Tryz.func63, Tryz.ntmps63
    go_wp2
    go_ret
    exact ⟨ret_bool (by rw [HR.out]), rfl⟩
  · by_cases h2 : c < a
    · have HR := Lib.hid (outB_true (.inr h2) : outB a b c = true)
      go_enter Tryz.func63, Tryz.ntmps63
      go_wp2
      go_ret
      exact ⟨ret_bool (by rw [HR.out]), rfl⟩
    · have HR := Lib.hid (outB_false (by omega) (by omega) : outB a b c = false)
      go_enter Tryz.func63, Tryz.ntmps63
      go_wp2
      go_ret
      exact ⟨ret_bool (by rw [HR.out]), rfl⟩
def loOf (k : Int) : Int := if k = 1 then 1 else if k = 2 then -999999999999999 else if k = 4 then 1 else if k = 6 then -25567 else 0
def hiOf (k : Int) : Int := if k = 1 then 3 else if k = 2 then 999999999999999 else if k = 4 then 999 else if k = 6 then 84005 else if k = 7 then 1 else 0
theorem limits_any (k : Int) (w : World) :
    Calls Tryz.prog 99 #[.int .i64 k] w fun e w' => e = .returned (.tuple #[.int .i64 (loOf k), .int .i64 (hiOf k)]) ∧ w = w' := by
  go_enter Tryz.func99, Tryz.ntmps99
  go_wp2
  all_goals (go_ret2; exact ⟨ret_val (by simp_all [loOf, hiOf]), rfl⟩)
def usesB (k : Int) : Bool := !decide (k = 0) && (!decide (k = 3) && !decide (k = 5))
def unusedB (x : Val) : Bool := (!usesB x.k && !decide (x.n = 0)) || ((!decide (x.k = 3) && !decide (x.s.toList = [])) || (!decide (x.k = 5) && !decide (x.l = [])))
set_option maxHeartbeats 1000000 in
theorem unused_any (x : Val) (A : Option Addr) (c : Nat) (w : World) :
    Calls Tryz.prog 98 #[.agg #[.int .i64 x.k, .int .i64 x.n, .string x.s, .slice A x.l.length c]] w
      fun e w' => e = .returned (.bool (unusedB x)) ∧ Below w.heap.size w w' := by
  go_enter Tryz.func98, Tryz.ntmps98
  go_wp2
  all_goals (go_ret; exact ⟨ret_bool (by simp_all [unusedB, usesB, List.length_pos_iff]), (Below.refl _ _).alloc (Nat.le_refl _) _⟩)
end Go.Proofs.YtobanldeicclmaaGreatDoor
namespace Go.Proofs.YtobanldeicclmaaGreatDoor
open Go.RowKit
theorem any_hit {α : Type} {l : List α} {p : α → Bool} {k : Nat} (h : k < l.length) (hp : p l[k] = true) : l.any p = true := List.any_eq_true.2 ⟨_, List.getElem_mem h, hp⟩
theorem any_step {α : Type} {l : List α} {p : α → Bool} {k : Nat} (h : k < l.length) (hp : p l[k] = false) (ht : (l.take k).any p = false) : (l.take (k + 1)).any p = false := by
  rw [List.take_succ_eq_append_getElem h, List.any_append, ht]
  simp [hp]
theorem any_done {α : Type} {l : List α} {p : α → Bool} {k : Nat} (h : l.length ≤ k) (ht : (l.take k).any p = false) : l.any p = false := by
  rwa [List.take_of_length_le h] at ht
def badByte (c : UInt8) : Bool := decide ((c.toNat : Int) < 32) || decide (126 < (c.toNat : Int))
def badStr (s : ByteArray) : Bool := s.data.toList.any badByte
def badCode (c : Int) : Bool := outB c 1 999
def descAt (l : List Int) (i : Nat) : Bool := decide (l.getD (i + 1) 0 ≤ l.getD i 0)
def unsorted (l : List Int) : Bool := (List.range (l.length - 1)).any (descAt l)
def checkV (x : Val) : Int :=
  if outB x.k 0 7 = true then 4 else if unusedB x = true then 3 else if outB x.n (loOf x.k) (hiOf x.k) = true then 1 else
  if 200 < x.s.size ∨ 40 < x.l.length then 2 else if badStr x.s = true then 1 else if x.l.any badCode = true then 1 else if unsorted x.l = true then 7 else 0
theorem str_at {s : ByteArray} {k : Nat} (h : k < s.size) : ∃ h' : k < s.data.toList.length, s.data.toList[k] = s[k] := ⟨by simpa using h, rfl⟩
theorem bad_hit {s : ByteArray} {k : Nat} (h : k < s.size) (hp : (s[k].toNat : Int) < 32 ∨ 126 < (s[k].toNat : Int)) : badStr s = true := by
  obtain ⟨h', e⟩ := str_at h
  refine any_hit h' ?_
  rw [e]
  simpa [badByte] using hp
theorem bad_step {s : ByteArray} {k : Nat} (h : k < s.size) (h1 : ¬ (s[k].toNat : Int) < 32) (h2 : ¬ 126 < (s[k].toNat : Int)) (ht : (s.data.toList.take k).any badByte = false) : (s.data.toList.take (k + 1)).any badByte = false := by
  obtain ⟨h', e⟩ := str_at h
  refine any_step h' ?_ ht
  rw [e]
  simp only [badByte, Bool.or_eq_false_iff, decide_eq_false_iff_not]
  exact ⟨h1, h2⟩
theorem bad_done {s : ByteArray} {k : Nat} (h : s.size ≤ k) (ht : (s.data.toList.take k).any badByte = false) : badStr s = false := any_done (by simpa using h) ht
theorem desc_hit {l : List Int} {k : Nat} (h1 : 1 ≤ k) (h : k < l.length) (hd : l[k] ≤ l[k - 1]) : unsorted l = true := by
  unfold unsorted
  refine List.any_eq_true.2 ⟨k - 1, List.mem_range.2 (by omega), ?_⟩
  unfold descAt
  rw [show k - 1 + 1 = k from by omega]
  simpa [List.getD, h, show k - 1 < l.length from by omega] using hd
theorem desc_step {l : List Int} {k : Nat} (h1 : 1 ≤ k) (h : k < l.length) (hd : ¬ l[k] ≤ l[k - 1]) (ht : (List.range (k - 1)).any (descAt l) = false) : (List.range (k + 1 - 1)).any (descAt l) = false := by
  rw [show k + 1 - 1 = (k - 1) + 1 from by omega, List.range_succ, List.any_append, ht, List.any_cons, List.any_nil]
  unfold descAt
  rw [show k - 1 + 1 = k from by omega]
  simpa [List.getD, h, show k - 1 < l.length from by omega] using hd
theorem desc_done {l : List Int} {k : Nat} (h1 : 1 ≤ k) (h : l.length ≤ k) (hk : k ≤ l.length ∨ k = 1) (ht : (List.range (k - 1)).any (descAt l) = false) : unsorted l = false := by
  unfold unsorted
  rw [show l.length - 1 = k - 1 from by omega]
  exact ht
set_option maxHeartbeats 2000000 in
theorem check_any (x : Val) (A : Option Addr) (c B1 : Nat) (w : World) (_hn : x.l.length ≤ maxLen) (_hs : x.s.size ≤ maxLen) (hx : Reads w B1 1 A x.l.length (numV .i64 x.l)) (hB1 : B1 ≤ w.heap.size) :
    Calls Tryz.prog 65 #[.agg #[.int .i64 x.k, .int .i64 x.n, .string x.s, .slice A x.l.length c]] w
      fun e w' => e = .returned (.int .i64 (checkV x)) ∧ Below w.heap.size w w' := by
  by_cases e1 : outB x.k 0 7 = true
  · have HR := Lib.hid (show checkV x = 4 by unfold checkV; rw [if_pos e1])
    go_enter Tryz.func65, Tryz.ntmps65
    go_wp2_with (first
        | (go_at_call 63; refine (outside_any _ _ _ _).mono ?_; rintro e w' ⟨rfl, rfl⟩)
        | (go_at_call 99; refine (limits_any _ _).mono ?_; rintro e w' ⟨rfl, rfl⟩))
    go_ret
    exact ⟨ret_int (by rw [HR.out]), ((Below.refl _ _).alloc (Nat.le_refl _) _)⟩
  have e1' : outB x.k 0 7 = false := by simpa using e1
  have E1 := Lib.hid e1
  clear e1
  by_cases e2 : unusedB x = true
  · have HR := Lib.hid (show checkV x = 3 by unfold checkV; rw [if_neg E1.out, if_pos e2])
    go_enter Tryz.func65, Tryz.ntmps65
    go_wp2_with (first
        | (go_at_call 63; refine (outside_any _ _ _ _).mono ?_; rintro e w' ⟨rfl, rfl⟩)
        | (go_at_call 99; refine (limits_any _ _).mono ?_; rintro e w' ⟨rfl, rfl⟩))
    refine (unused_any _ _ _ _).mono ?_
    rintro e w1 ⟨rfl, hb⟩
    go_wp2
    go_ret
    exact ⟨ret_int (by rw [HR.out]), ((Below.refl _ _).alloc (Nat.le_refl _) _).trans (hb.mono (by simp))⟩
  have e2' : unusedB x = false := by simpa using e2
  have E2 := Lib.hid e2
  clear e2
  go_enter Tryz.func65, Tryz.ntmps65
  go_wp2_with (first
        | (go_at_call 63; refine (outside_any _ _ _ _).mono ?_; rintro e w' ⟨rfl, rfl⟩)
        | (go_at_call 99; refine (limits_any _ _).mono ?_; rintro e w' ⟨rfl, rfl⟩))
  refine (unused_any _ _ _ _).mono ?_
  rintro e w1 ⟨rfl, hb1⟩
  have c0 : w1.cell? ⟨w.heap.size, 0, none⟩ = some (.int .i64 x.k) := Below.cell_of hb1 (by simp [go_sem])
  have c1 : w1.cell? ⟨w.heap.size, 1, none⟩ = some (.int .i64 x.n) := Below.cell_of hb1 (by simp [go_sem])
  have c2 : w1.cell? ⟨w.heap.size, 2, none⟩ = some (.string x.s) := Below.cell_of hb1 (by simp [go_sem])
  have c3 : w1.cell? ⟨w.heap.size, 3, none⟩ = some (.slice A x.l.length c) := Below.cell_of hb1 (by simp [go_sem])
  have hb : Below w.heap.size w w1 := ((Below.refl _ _).alloc (Nat.le_refl _) _).trans (hb1.mono (by simp))
  clear hb1
  by_cases e3 : outB x.n (loOf x.k) (hiOf x.k) = true
  · have HR := Lib.hid (show checkV x = 1 by unfold checkV; rw [if_neg E1.out, if_neg E2.out, if_pos e3])
    go_wp2_with (first
        | (go_at_call 63; refine (outside_any _ _ _ _).mono ?_; rintro e w' ⟨rfl, rfl⟩)
        | (go_at_call 99; refine (limits_any _ _).mono ?_; rintro e w' ⟨rfl, rfl⟩))
    go_ret
    exact ⟨ret_int (by rw [HR.out]), hb⟩
  have e3' : outB x.n (loOf x.k) (hiOf x.k) = false := by simpa using e3
  have E3 := Lib.hid e3
  clear e3
  by_cases e4 : 200 < x.s.size
  · have HR := Lib.hid (show checkV x = 2 by unfold checkV; rw [if_neg E1.out, if_neg E2.out, if_neg E3.out, if_pos (.inl e4)])
    go_wp2_with (first
        | (go_at_call 63; refine (outside_any _ _ _ _).mono ?_; rintro e w' ⟨rfl, rfl⟩)
        | (go_at_call 99; refine (limits_any _ _).mono ?_; rintro e w' ⟨rfl, rfl⟩))
    go_ret
    exact ⟨ret_int (by rw [HR.out]), hb⟩
  by_cases e5 : 40 < x.l.length
  · have HR := Lib.hid (show checkV x = 2 by unfold checkV; rw [if_neg E1.out, if_neg E2.out, if_neg E3.out, if_pos (.inr e5)])
    go_wp2_with (first
        | (go_at_call 63; refine (outside_any _ _ _ _).mono ?_; rintro e w' ⟨rfl, rfl⟩)
        | (go_at_call 99; refine (limits_any _ _).mono ?_; rintro e w' ⟨rfl, rfl⟩))
    go_ret
    exact ⟨ret_int (by rw [HR.out]), hb⟩
  have H5 := Lib.hid (show checkV x = if badStr x.s = true then 1 else if x.l.any badCode = true then 1 else if unsorted x.l = true then 7 else 0 by unfold checkV; rw [if_neg E1.out, if_neg E2.out, if_neg E3.out, if_neg (by omega)])
  clear E1 E2 E3
  go_wp2_with (first
        | (go_at_call 63; refine (outside_any _ _ _ _).mono ?_; rintro e w' ⟨rfl, rfl⟩)
        | (go_at_call 99; refine (limits_any _ _).mono ?_; rintro e w' ⟨rfl, rfl⟩))
  clear e1' e2' e3'
  go_loop [5] (fun i => ∃ k : Nat, k ≤ x.s.size ∧ i = .int .i64 k ∧ (x.s.data.toList.take k).any badByte = false) (fun i => x.s.size - (intOf i).toNat)
  case atStart => exact ⟨0, Nat.zero_le _, rfl, rfl⟩
  case round =>
    obtain ⟨k, hk, rfl, ht⟩ := hrel
    have HT := Lib.hid ht
    clear ht
    by_cases hlt : k < x.s.size
    · by_cases b1 : (x.s[k].toNat : Int) < 32
      · have HR := Lib.hid (bad_hit hlt (.inl b1))
        go_wp2
        go_ret
        exact ⟨ret_int (by rw [H5.out, if_pos HR.out]), hb⟩
      by_cases b2 : 126 < (x.s[k].toNat : Int)
      · have HR := Lib.hid (bad_hit hlt (.inr b2))
        go_wp2
        go_ret
        exact ⟨ret_int (by rw [H5.out, if_pos HR.out]), hb⟩
      have HN := Lib.hid (bad_step hlt b1 b2 HT.out)
      go_wp2
      go_round
      case rel => exact ⟨k + 1, by omega, by go_num, HN.out⟩
      case measure => simp [intOf]; omega
    have H6 := Lib.hid (show checkV x = if x.l.any badCode = true then 1 else if unsorted x.l = true then 7 else 0 by rw [H5.out, if_neg (by rw [bad_done (by omega) HT.out]; simp)])
    clear H5 HT
    go_wp2
    go_loop [57, 7] (fun i _ => ∃ k : Nat, k ≤ x.l.length ∧ i = .int .i64 k ∧ (x.l.take k).any badCode = false) (fun i _ => x.l.length - (intOf i).toNat)
    case atStart => exact ⟨0, Nat.zero_le _, rfl, rfl⟩
    case round =>
      obtain ⟨k2, hk2, rfl, ht⟩ := hrel
      have HT := Lib.hid ht
      clear ht
      by_cases hl2 : k2 < x.l.length
      · obtain ⟨ax, u, rfl, _, hu, hcx⟩ := ((hx.more hB1).below hb).at_ hl2
        obtain ⟨_, rfl⟩ := numV_get _ _ _ _ hu
        clear hu
        by_cases b1 : outB x.l[k2] 1 999 = true
        · have HR := Lib.hid (any_hit (p := badCode) hl2 b1)
          go_wp2_with (first
        | (go_at_call 63; refine (outside_any _ _ _ _).mono ?_; rintro e w' ⟨rfl, rfl⟩)
        | (go_at_call 99; refine (limits_any _ _).mono ?_; rintro e w' ⟨rfl, rfl⟩))
          go_ret
          exact ⟨ret_int (by rw [H6.out, if_pos HR.out]), hb⟩
        have b1' : outB x.l[k2] 1 999 = false := by simpa using b1
        have HN := Lib.hid (any_step (p := badCode) hl2 b1' HT.out)
        clear b1
        go_wp2_with (first
        | (go_at_call 63; refine (outside_any _ _ _ _).mono ?_; rintro e w' ⟨rfl, rfl⟩)
        | (go_at_call 99; refine (limits_any _ _).mono ?_; rintro e w' ⟨rfl, rfl⟩))
        go_round
        case rel => exact ⟨k2 + 1, by omega, by go_num, HN.out⟩
        case measure => simp [intOf]; omega
      have H7 := Lib.hid (show checkV x = if unsorted x.l = true then 7 else 0 by rw [H6.out, if_neg (by rw [any_done (by omega) HT.out]; simp)])
      clear H6 HT
      go_wp2
      go_loopw [8] (fun i wr => ∃ k : Nat, 1 ≤ k ∧ (k ≤ x.l.length ∨ k = 1) ∧ i = .int .i64 k ∧ Below w1.heap.size w1 wr ∧ (List.range (k - 1)).any (descAt x.l) = false) (fun i _ => x.l.length - (intOf i).toNat)
      case atStart => exact ⟨1, Nat.le_refl _, .inr rfl, rfl, Below.refl _ _, rfl⟩
      case round =>
        obtain ⟨k3, hk3, hk4, rfl, hbr, ht⟩ := hrel
        have HT := Lib.hid ht
        clear ht
        replace c3 := Below.cell_of hbr c3
        clear c0 c1 c2
        replace hb := hb.trans (hbr.mono hb.size)
        by_cases hl3 : k3 < x.l.length
        · obtain ⟨ax, u, rfl, _, hu, hcx⟩ := ((hx.more hB1).below hb).at_ hl3
          obtain ⟨ay, v, ey, _, hv, hcy⟩ := ((hx.more hB1).below hb).at_ (show k3 - 1 < x.l.length by omega)
          obtain rfl : ax = ay := by injection ey
          obtain ⟨_, rfl⟩ := numV_get _ _ _ _ hu
          obtain ⟨_, rfl⟩ := numV_get _ _ _ _ hv
          clear hu hv ey hx
          by_cases b1 : x.l[k3] ≤ x.l[k3 - 1]
          · have HR := Lib.hid (desc_hit hk3 hl3 b1)
            go_wp2
            go_quiet (fail)
            go_wp2
            go_ret
            exact ⟨ret_int (by rw [H7.out, if_pos HR.out]), hb.drewN _⟩
          have HN := Lib.hid (desc_step hk3 hl3 b1 HT.out)
          go_wp2
          go_quiet (fail)
          go_wp2
          go_roundw
          case rel => exact ⟨k3 + 1, by omega, by omega, by go_num, hbr.drewN _, HN.out⟩
          case measure => simp [intOf]; omega
        have H8 := Lib.hid (show checkV x = 0 by rw [H7.out, if_neg (by rw [desc_done hk3 (by omega) hk4 HT.out]; simp)])
        clear H7 HT
        go_wp2
        go_ret
        exact ⟨ret_int (by rw [H8.out]), hb⟩
end Go.Proofs.YtobanldeicclmaaGreatDoor
namespace Go.Proofs.YtobanldeicclmaaGreatDoor
inductive Ex where
  | mk (k op : Int) (nm : ByteArray) (v : Val) (ar : List Ex)
def Ex.k : Ex → Int | .mk k _ _ _ _ => k
def Ex.op : Ex → Int | .mk _ op _ _ _ => op
def Ex.nm : Ex → ByteArray | .mk _ _ nm _ _ => nm
def Ex.v : Ex → Val | .mk _ _ _ v _ => v
def Ex.ar : Ex → List Ex | .mk _ _ _ _ ar => ar
mutual
def Ex.parts : Ex → Nat
  | .mk _ _ _ _ ar => partsL ar + 1
def partsL : List Ex → Nat
  | [] => 0
  | a :: r => a.parts + partsL r
end
mutual
def Ex.depth : Ex → Nat
  | .mk _ _ _ _ ar => depthL ar + 1
def depthL : List Ex → Nat
  | [] => 0
  | a :: r => max a.depth (depthL r)
end
theorem parts_eq (e : Ex) : e.parts = partsL e.ar + 1 := by cases e; rw [Ex.parts]; rfl
theorem depth_eq (e : Ex) : e.depth = depthL e.ar + 1 := by cases e; rw [Ex.depth]; rfl
mutual
theorem Ex.ind_ {P : Ex → Prop} (h : ∀ k op nm v ar, (∀ a ∈ ar, P a) → P (.mk k op nm v ar)) : ∀ e, P e
  | .mk k op nm v ar => h k op nm v ar (Ex.indL_ h ar)
theorem Ex.indL_ {P : Ex → Prop} (h : ∀ k op nm v ar, (∀ a ∈ ar, P a) → P (.mk k op nm v ar)) : ∀ ar : List Ex, ∀ a ∈ ar, P a
  | [] => fun _ ha => by cases ha
  | b :: r => fun a ha => by
    rcases List.mem_cons.1 ha with e | e
    · rw [e]; exact Ex.ind_ h b
    · exact Ex.indL_ h r a e
end
/-- induction on an expression, by its parts -/
theorem Ex.ind {P : Ex → Prop} (e : Ex) (h : ∀ e : Ex, (∀ a ∈ e.ar, P a) → P e) : P e := Ex.ind_ (fun k op nm v ar ih => h (.mk k op nm v ar) ih) e
theorem partsL_mem {a : Ex} : ∀ {ar : List Ex}, a ∈ ar → a.parts ≤ partsL ar
  | b :: r, h => by
    rw [partsL]
    rcases List.mem_cons.1 h with e | e
    · rw [e]; omega
    · have := partsL_mem e; omega
theorem parts_pos (e : Ex) : 0 < e.parts := by rw [parts_eq]; omega
theorem len_parts : ∀ ar : List Ex, ar.length ≤ partsL ar
  | [] => Nat.zero_le _
  | a :: r => by
    have := len_parts r
    have := parts_pos a
    rw [partsL, List.length_cons]; omega
mutual
def Ex.meas : Ex → Nat → Nat × Nat → Nat × Nat
  | .mk _ _ _ _ ar, lv, s => if 300 < s.1 + 1 ∨ 20 < lv then (s.1 + 1, max s.2 lv) else measL ar (lv + 1) (s.1 + 1, max s.2 lv)
def measL : List Ex → Nat → Nat × Nat → Nat × Nat
  | [], _, s => s
  | a :: r, lv, s => measL r lv (a.meas lv s)
end
theorem meas_eq (e : Ex) (lv : Nat) (s : Nat × Nat) : e.meas lv s = if 300 < s.1 + 1 ∨ 20 < lv then (s.1 + 1, max s.2 lv) else measL e.ar (lv + 1) (s.1 + 1, max s.2 lv) := by cases e; rw [Ex.meas]; rfl
def bad (s : Nat × Nat) : Prop := 300 < s.1 ∨ 20 < s.2
theorem measL_up {ar : List Ex} {lv : Nat} (h : ∀ a ∈ ar, ∀ s : Nat × Nat, s.1 ≤ (a.meas lv s).1 ∧ s.2 ≤ (a.meas lv s).2) : ∀ s : Nat × Nat, s.1 ≤ (measL ar lv s).1 ∧ s.2 ≤ (measL ar lv s).2 := by
  induction ar with
  | nil => intro s; exact ⟨Nat.le_refl _, Nat.le_refl _⟩
  | cons a r ih =>
    intro s
    have h1 := h a (List.mem_cons_self ..) s
    have h2 := ih (fun b hb => h b (List.mem_cons_of_mem _ hb)) (a.meas lv s)
    rw [measL]
    omega
theorem meas_up (e : Ex) : ∀ lv (s : Nat × Nat), s.1 ≤ (e.meas lv s).1 ∧ s.2 ≤ (e.meas lv s).2 ∧ lv ≤ (e.meas lv s).2 := by
  induction e using Ex.ind with
  | h e ih =>
    intro lv s
    rw [meas_eq]
    split
    · exact ⟨by show s.1 ≤ s.1 + 1; omega, by show s.2 ≤ max s.2 lv; omega, by show lv ≤ max s.2 lv; omega⟩
    · have := measL_up (lv := lv + 1) (fun a ha s => ⟨(ih a ha (lv + 1) s).1, (ih a ha (lv + 1) s).2.1⟩) (s.1 + 1, max s.2 lv)
      simp only at this
      omega
theorem bad_up {s t : Nat × Nat} (h : bad s) (h1 : s.1 ≤ t.1) (h2 : s.2 ≤ t.2) : bad t := by unfold bad at *; omega
theorem measL_ok {lv : Nat} : ∀ {ar : List Ex}, (∀ a ∈ ar, ∀ s : Nat × Nat, (¬ bad (s.1 + a.parts, max s.2 (lv + a.depth)) → a.meas (lv + 1) s = (s.1 + a.parts, max s.2 (lv + a.depth))) ∧ (bad (s.1 + a.parts, max s.2 (lv + a.depth)) → bad (a.meas (lv + 1) s))) →
    ∀ s : Nat × Nat, lv ≤ s.2 → (¬ bad (s.1 + partsL ar, max s.2 (lv + depthL ar)) → measL ar (lv + 1) s = (s.1 + partsL ar, max s.2 (lv + depthL ar))) ∧ (bad (s.1 + partsL ar, max s.2 (lv + depthL ar)) → bad (measL ar (lv + 1) s))
  | [], _, s, hs => by
    rw [measL, partsL, depthL]
    have e : (s.1 + 0, max s.2 (lv + 0)) = s := Prod.ext (by simp) (by simp; omega)
    rw [e]
    exact ⟨fun _ => rfl, id⟩
  | a :: r, h, s, hs => by
    rw [measL, partsL, depthL]
    obtain ⟨h1, h2⟩ := h a (List.mem_cons_self ..) s
    have e : (s.1 + (a.parts + partsL r), max s.2 (lv + max a.depth (depthL r))) = ((s.1 + a.parts, max s.2 (lv + a.depth)).1 + partsL r, max (s.1 + a.parts, max s.2 (lv + a.depth)).2 (lv + depthL r)) :=
      Prod.ext (by simp; try omega) (by simp; try omega)
    by_cases hb : bad (s.1 + a.parts, max s.2 (lv + a.depth))
    · have hm := h2 hb
      have hup := measL_up (ar := r) (lv := lv + 1) (fun b _ s => ⟨(meas_up b (lv + 1) s).1, (meas_up b (lv + 1) s).2.1⟩) (a.meas (lv + 1) s)
      refine ⟨fun hn => absurd (bad_up hb (by show _ ≤ s.1 + (a.parts + partsL r); simp; try omega) (by show _ ≤ max s.2 (lv + max a.depth (depthL r)); simp; try omega)) hn, fun _ => bad_up hm hup.1 hup.2⟩
    · have ih := measL_ok (fun b hb => h b (List.mem_cons_of_mem _ hb)) (s.1 + a.parts, max s.2 (lv + a.depth)) (by show lv ≤ max s.2 (lv + a.depth); omega)
      rw [h1 hb, e]
      exact ih
theorem meas_ok (e : Ex) : ∀ lv (s : Nat × Nat), (¬ bad (s.1 + e.parts, max s.2 (lv + e.depth)) → e.meas (lv + 1) s = (s.1 + e.parts, max s.2 (lv + e.depth))) ∧ (bad (s.1 + e.parts, max s.2 (lv + e.depth)) → bad (e.meas (lv + 1) s)) := by
  induction e using Ex.ind with
  | h e ih =>
    intro lv s
    rw [meas_eq, parts_eq, depth_eq]
    have IH := measL_ok (lv := lv + 1) (fun a ha s => ih a ha (lv + 1) s) (s.1 + 1, max s.2 (lv + 1)) (by simp; omega)
    have e2 : (s.1 + (partsL e.ar + 1), max s.2 (lv + (depthL e.ar + 1))) = ((s.1 + 1, max s.2 (lv + 1)).1 + partsL e.ar, max (s.1 + 1, max s.2 (lv + 1)).2 (lv + 1 + depthL e.ar)) := Prod.ext (by simp; omega) (by simp; omega)
    rw [e2]
    split
    · rename_i hc
      refine ⟨fun hn => absurd ?_ hn, fun _ => ?_⟩
      · unfold bad; simp; omega
      · unfold bad; simp; omega
    · exact IH
/-- too large: by the program's measure and by the count of all parts -/
theorem meas_bad (e : Ex) : bad (e.meas 1 (0, 0)) ↔ 300 < e.parts ∨ 20 < e.depth := by
  have h := meas_ok e 0 (0, 0)
  have e1 : ((0, 0) : Nat × Nat).1 + e.parts = e.parts := by simp
  have e2 : max ((0, 0) : Nat × Nat).2 (0 + e.depth) = e.depth := by simp
  rw [e1, e2] at h
  by_cases hb : bad (e.parts, e.depth)
  · exact ⟨fun _ => hb, fun _ => h.2 hb⟩
  · rw [h.1 hb]; exact Iff.rfl
def reservedL : List (List UInt8) := [[97, 110, 100], [111, 114], [110, 111, 116], [105, 110], [104, 97, 115], [109, 111, 100], [116, 114, 117, 101], [102, 97, 108, 115, 101]]
def lowB (c : UInt8) : Bool := decide (97 ≤ c.toNat) && decide (c.toNat ≤ 122)
def wordB (c : UInt8) : Bool := lowB c || (decide (48 ≤ c.toNat) && decide (c.toNat ≤ 57)) || decide (c.toNat = 95)
def isNameF (s : List UInt8) : Bool := !decide (s = []) && decide (s.length ≤ 16) && (match s with | c :: _ => lowB c | [] => false) && !reservedL.contains s && s.all wordB
def zeroVal (v : Val) : Bool := decide (v.k = 0) && decide (v.n = 0) && decide (v.s.toList = []) && decide (v.l = [])
/-- how many arguments an operation has: least, most -/
def arOf (op : Int) : Nat × Nat :=
  if op = 2 ∨ op = 3 ∨ op = 24 ∨ op = 25 then (2, 1099511627776) else if op = 26 then (3, 3) else
  if op = 1 ∨ (12 ≤ op ∧ op ≤ 14) ∨ (20 ≤ op ∧ op ≤ 23) ∨ (28 ≤ op ∧ op ≤ 30) ∨ (34 ≤ op ∧ op ≤ 36) then (1, 1) else
  if 1 ≤ op ∧ op ≤ 39 then (2, 2) else (0, 0)
/-- the kind of the first argument -/
def headK (l : List Ex) : Int := match l with
  | a :: _ => a.k
  | [] => 0
def extraB (k op : Int) (nm : ByteArray) (v : Val) (n : Nat) : Bool :=
  if (k ≠ 1 ∧ zeroVal v = false) ∨ (¬ (k = 4 ∨ k = 5) ∧ (op ≠ 0 ∨ 0 < n)) ∨ (¬ (k = 2 ∨ k = 3 ∨ k = 5) ∧ nm.toList ≠ []) then true else
  if k = 5 then !decide (n = 1) else decide (k = 4) && (decide (n < (arOf op).1) || decide ((arOf op).2 < n))
def partB (k op : Int) (nm : ByteArray) (v : Val) (n : Nat) (hk : Int) : Int :=
  if outB k 1 5 = true then 4 else if k = 4 ∧ outB op 1 39 = true then 4 else if k = 5 ∧ outB op 1 6 = true then 4 else
  if extraB k op nm v n = true then 3 else
  if k = 1 then (if v.k = 0 ∨ v.k = 1 then 4 else checkV v) else
  if k = 4 then (if 12 ≤ op ∧ op ≤ 14 ∧ hk ≠ 2 then 3 else 0) else
  if isNameF nm.data.toList = true then 0 else 5
def partF (e : Ex) : Int := partB e.k e.op e.nm e.v e.ar.length (headK e.ar)
mutual
def Ex.fault : Ex → Int
  | .mk k op nm v ar => if partF (.mk k op nm v ar) ≠ 0 then partF (.mk k op nm v ar) else faultL ar
def faultL : List Ex → Int
  | [] => 0
  | a :: r => if a.fault ≠ 0 then a.fault else faultL r
end
theorem fault_eq (e : Ex) : e.fault = if partF e ≠ 0 then partF e else faultL e.ar := by cases e; rw [Ex.fault]; rfl
/-- CheckExpr -/
def checkE (e : Ex) : Int := if 300 < e.parts ∨ 20 < e.depth then 2 else e.fault
end Go.Proofs.YtobanldeicclmaaGreatDoor
namespace Go.Proofs.YtobanldeicclmaaGreatDoor
open Go.RowKit
/-- the eight cells of an expression -/
def exCells (e : Ex) (A : Option Addr) (c : Nat) (A' : Option Addr) (c' : Nat) : List Value :=
  [.int .i64 e.k, .int .i64 e.op, .string e.nm, .int .i64 e.v.k, .int .i64 e.v.n, .string e.v.s, .slice A e.v.l.length c, .slice A' e.ar.length c']
/-- an expression lies there, with all its parts -/
inductive ExAt (w : World) (B : Nat) : Ex → List Value → Prop
  | mk {e : Ex} {A : Option Addr} {c : Nat} {A' : Option Addr} {c' : Nat} {cs : List Value} (hn : e.nm.size ≤ maxLen) (hs : e.v.s.size ≤ maxLen) (hl : e.v.l.length ≤ maxLen) (ha : e.ar.length ≤ maxLen)
      (hx : Reads w B 1 A e.v.l.length (numV .i64 e.v.l)) (hr : Reads w B 8 A' e.ar.length cs) (hi : ∀ i (h : i < e.ar.length), ExAt w B e.ar[i] ((cs.drop (i * 8)).take 8)) : ExAt w B e (exCells e A c A' c')
theorem ExAt.keep {w w' : World} {B : Nat} {e : Ex} {cs : List Value} (h : ExAt w B e cs) (hb : Below B w w') : ExAt w' B e cs := by
  induction h with
  | mk hn hs hl ha hx hr hi ih => exact .mk hn hs hl ha (hx.below hb) (hr.below hb) ih
theorem ExAt.up {w : World} {B B' : Nat} {e : Ex} {cs : List Value} (h : ExAt w B e cs) (hB : B ≤ B') : ExAt w B' e cs := by
  induction h with
  | mk hn hs hl ha hx hr hi ih => exact .mk hn hs hl ha (hx.more hB) (hr.more hB) ih
/-- the argument at a place -/
theorem ExAt.arg {w : World} {B : Nat} {e : Ex} {A' : Option Addr} {cs : List Value} (hr : Reads w B 8 A' e.ar.length cs) (hi : ∀ i (h : i < e.ar.length), ExAt w B e.ar[i] ((cs.drop (i * 8)).take 8)) {i : Nat} (h : i < e.ar.length) :
    ∃ ad ci, A' = some ad ∧ ad.block < B ∧ ExAt w B e.ar[i] ci ∧ ∀ j u, ci[j]? = some u → w.cell? ((ad.add (i * 8)).add j) = some u := by
  obtain ⟨ad, rfl, hb, hc⟩ := hr.2 (by omega)
  refine ⟨ad, _, rfl, hb, hi i h, fun j u hu => ?_⟩
  rw [add_of_add]
  refine hc _ u ?_
  rw [List.getElem?_take] at hu
  split at hu
  · rw [List.getElem?_drop] at hu; exact hu
  · cases hu
theorem partsL_snoc (a : Ex) : ∀ l : List Ex, partsL (l ++ [a]) = partsL l + a.parts
  | [] => by simp [partsL]
  | b :: r => by rw [List.cons_append, partsL, partsL, partsL_snoc a r]; omega
theorem partsL_take (l : List Ex) : ∀ k, partsL (l.take k) ≤ partsL l := by
  induction l with
  | nil => intro k; simp [partsL]
  | cons a r ih =>
    intro k
    cases k with
    | zero => simp [partsL]
    | succ k => rw [List.take_succ_cons, partsL, partsL]; have := ih k; omega
end Go.Proofs.YtobanldeicclmaaGreatDoor
