/- The law: not, and, or are those of two values. -/
import Derived.Test.YtpanbeoelbhhgaaGreatDoorO1
namespace Go.Proofs.YtpanbeoelbhhgaaGreatDoor
open Go.RowKit
attribute [local go_sem ↓] Go.wp_at_zero Go.wp_at_succ
set_option maxHeartbeats 4000000
set_option maxRecDepth 100000

theorem ExAt.later {w w' : World} {e : Ex} {cs : List Value} (h : ExAt w w.heap.size e cs) (hb : Below w.heap.size w w') : ExAt w' w'.heap.size e cs := (h.keep hb).up hb.size
/-- an expression, as a value -/
def AtE (e : Ex) (w : World) (x : Value) : Prop := ∃ A c A' c', x = .agg #[.int .i64 e.k, .int .i64 e.op, .string e.nm, .int .i64 e.v.k, .int .i64 e.v.n, .string e.v.s, .slice A e.v.l.length c, .slice A' e.ar.length c'] ∧ ExAt w w.heap.size e (exCells e A c A' c')
/-- an own row of one expression, of two -/
def Sl1 (e : Ex) (w : World) (x : Value) : Prop := ∃ g A c A' c', x = .slice (some ⟨g, 0, none⟩) 1 1 ∧ Blk w g 27 (exCells e A c A' c').toArray ∧ ExAt w w.heap.size e (exCells e A c A' c')
def Sl2 (a b : Ex) (w : World) (x : Value) : Prop := ∃ g A c A' c' A1 c1 A1' c1', x = .slice (some ⟨g, 0, none⟩) 2 2 ∧ Blk w g 27 (exCells a A c A' c' ++ exCells b A1 c1 A1' c1').toArray ∧ ExAt w w.heap.size a (exCells a A c A' c') ∧ ExAt w w.heap.size b (exCells b A1 c1 A1' c1')
/-- a value that was told, in new memory -/
def OwV (B : Nat) (v : Val) (w : World) (x : Value) : Prop := ∃ A c, x = .agg #[.int .i64 v.k, .int .i64 v.n, .string v.s, .slice A v.l.length c] ∧ w.ownsRow B 3 1 (.slice A v.l.length c) v.l.length (numV .i64 v.l) ∧ v.s.size ≤ maxLen ∧ v.l.length ≤ maxLen
/-- the box of a result, empty; filled -/
def Bx0 (B : Nat) (w : World) (x : Value) : Prop := ∃ g, x = .pointer (some ⟨g, 0, none⟩) ∧ B ≤ g ∧ Blk w g 24 #[.int .i64 0, .int .i64 0, .string ⟨#[]⟩, .slice none 0 0]
def Bx1 (B : Nat) (v : Val) (w : World) (x : Value) : Prop := ∃ g A c, x = .pointer (some ⟨g, 0, none⟩) ∧ B ≤ g ∧ Blk w g 24 #[.int .i64 v.k, .int .i64 v.n, .string v.s, .slice A v.l.length c] ∧ Reads w w.heap.size 1 A v.l.length (numV .i64 v.l) ∧ v.s.size ≤ maxLen ∧ v.l.length ≤ maxLen
theorem AtE.later {e : Ex} {w w' : World} {x : Value} (h : AtE e w x) (hb : Below w.heap.size w w') : AtE e w' x := by
  obtain ⟨A, c, A', c', e1, h1⟩ := h
  exact ⟨A, c, A', c', e1, h1.later hb⟩
theorem Sl1.later {e : Ex} {w w' : World} {x : Value} (h : Sl1 e w x) (hb : Below w.heap.size w w') : Sl1 e w' x := by
  obtain ⟨g, A, c, A', c', e1, h1, h2⟩ := h
  exact ⟨g, A, c, A', c', e1, h1.below hb h1.lt, h2.later hb⟩
theorem Sl2.later {a b : Ex} {w w' : World} {x : Value} (h : Sl2 a b w x) (hb : Below w.heap.size w w') : Sl2 a b w' x := by
  obtain ⟨g, A, c, A', c', A1, c1, A1', c1', e1, h1, h2, h3⟩ := h
  exact ⟨g, A, c, A', c', A1, c1, A1', c1', e1, h1.below hb h1.lt, h2.later hb, h3.later hb⟩
theorem own_later {w w' : World} {B size n : Nat} {e : TypeId} {v : Value} {xs : List Value} (h : w.ownsRow B e size v n xs) (hb : Below w.heap.size w w') : w'.ownsRow B e size v n xs := by
  refine ⟨h.1, h.2.imp id ?_⟩
  rintro ⟨g', cap, cur, e0, e1, e2, e3⟩
  exact ⟨g', cap, cur, e0, e1, (hb.block g' (Blk.lt (t := e) e2)).trans e2, e3⟩
theorem OwV.later {B : Nat} {v : Val} {w w' : World} {x : Value} (h : OwV B v w x) (hb : Below w.heap.size w w') : OwV B v w' x := by
  obtain ⟨A, c, e1, h1, h2⟩ := h
  exact ⟨A, c, e1, own_later h1 hb, h2⟩
theorem Bx0.later {B : Nat} {w w' : World} {x : Value} (h : Bx0 B w x) (hb : Below w.heap.size w w') : Bx0 B w' x := by
  obtain ⟨g, e1, h1, h2⟩ := h
  exact ⟨g, e1, h1, h2.below hb h2.lt⟩
theorem Bx1.later {B : Nat} {v : Val} {w w' : World} {x : Value} (h : Bx1 B v w x) (hb : Below w.heap.size w w') : Bx1 B v w' x := by
  obtain ⟨g, A, c, e1, h1, h2, h3, h4⟩ := h
  exact ⟨g, A, c, e1, h1, h2.below hb h2.lt, (h3.below hb).more hb.size, h4⟩
/-- a value stored into its box -/
theorem Bx1.stored {B g : Nat} {v : Val} {w : World} {A : Option Addr} {c : Nat} (hg : B ≤ g) (hB : Blk w g 24 #[.int .i64 0, .int .i64 0, .string ⟨#[]⟩, .slice none 0 0]) (ho : w.ownsRow B 3 1 (.slice A v.l.length c) v.l.length (numV .i64 v.l)) (hs : v.s.size ≤ maxLen ∧ v.l.length ≤ maxLen) :
    ∃ W, W = (((w.setCell ⟨g, 0, none⟩ (.int .i64 v.k)).setCell ⟨g, 1, none⟩ (.int .i64 v.n)).setCell ⟨g, 2, none⟩ (.string v.s)).setCell ⟨g, 3, none⟩ (.slice A v.l.length c) ∧ Bx1 B v W (.pointer (some ⟨g, 0, none⟩)) ∧ Below B w W := by
  obtain ⟨W, hW, B1, hb⟩ := set4_ex hB (Below.refl B w) hg (.int .i64 v.k) (.int .i64 v.n) (.string v.s) (.slice A v.l.length c)
  refine ⟨W, hW, ⟨g, A, c, rfl, hg, B1, ?_, hs⟩, hb⟩
  have hne : ∀ g' cap cur, w.heap[g']? = some (.cells cur 3 cap) → g' ≠ g := by
    rintro g' cap cur h1 rfl
    unfold Blk at hB
    rw [hB] at h1
    injection h1 with h1
    injection h1 with _ h1
    exact absurd h1 (by decide)
  have h5 : W.ownsRow B 3 1 (.slice A v.l.length c) v.l.length (numV .i64 v.l) := by
    refine ⟨ho.1, ho.2.imp id ?_⟩
    rintro ⟨g', cap, cur, e0, e1, e2, e3⟩
    refine ⟨g', cap, cur, e0, e1, ?_, e3⟩
    have hn := hne g' _ _ e2
    rw [hW]
    exact (Below.heap_setCell _ _ _ g' hn).trans ((Below.heap_setCell _ _ _ g' hn).trans ((Below.heap_setCell _ _ _ g' hn).trans ((Below.heap_setCell _ _ _ g' hn).trans e2)))
  exact Reads.of_own h5
theorem wp_val {P : Program} {o : Oper} {a : Act} {w w' : World} {v : Value} {K : Act → World → Prop} {Q : Exit → Act → World → Prop} (hr : (execOp a.eval o).run P w = .ok (.value v) w') (hK : K (a.put o.dst v) w') : o.wp P a w K Q := by
  unfold Oper.wp
  rw [hr]
  exact hK
theorem wp_skip {P : Program} {o : Oper} {a : Act} {w w' : World} {K : Act → World → Prop} {Q : Exit → Act → World → Prop} (hr : (execOp a.eval o).run P w = .ok .skip w') (hK : K (a.put o.dst undef) w') : o.wp P a w K Q := by
  unfold Oper.wp
  rw [hr]
  exact hK
theorem wp_in {P : Program} {o : Oper} {a : Act} {w w' : World} {f : FuncId} {args : Array Value} {K : Act → World → Prop} {Q : Exit → Act → World → Prop} (hr : (execOp a.eval o).run P w = .ok (.enter f args) w') (hc : Calls P f args w' fun e w'' => ∃ v, e = .returned v ∧ K (a.put o.dst v) w'') : o.wp P a w K Q := by
  unfold Oper.wp
  rw [hr]
  refine Calls.mono hc fun e w'' ⟨v, he, hk⟩ => ?_
  subst he
  exact hk
theorem box3 (w : World) (T1 T2 T3 : TypeId) (cs1 cs2 cs3 : Array Value) : ∃ W, W = ((w.alloc (.cells cs1 T1 (0, 0))).alloc (.cells cs2 T2 (0, 0))).alloc (.cells cs3 T3 (0, 0)) ∧ Below w.heap.size w W ∧ Blk W w.heap.size T1 cs1 ∧ Blk W (w.heap.size + 1) T2 cs2 ∧ Blk W (w.heap.size + 2) T3 cs3 ∧ W.heap.size = w.heap.size + 3 := by
  obtain ⟨W, hW, h1, h2, h3, h4⟩ := box2 w T1 T2 cs1 cs2
  refine ⟨_, rfl, ?_, ?_, ?_, ?_, ?_⟩
  · rw [← hW]; exact h1.trans ((below_a W _).mono h1.size)
  · rw [← hW]; exact h2.alloc _
  · rw [← hW]; exact h3.alloc _
  · rw [← hW, ← h4]; exact Blk.new _ _ _
  · rw [← hW]; simp [h4]
theorem own_base0 {w : World} {B B' size n : Nat} {e : TypeId} {v : Value} {xs : List Value} (h : w.ownsRow B e size v n xs) (hB : B' ≤ B) : w.ownsRow B' e size v n xs := by
  refine ⟨h.1, h.2.imp id ?_⟩
  rintro ⟨g', cap, cur, e0, e1, e2⟩
  exact ⟨g', cap, cur, e0, Nat.le_trans hB e1, e2⟩
theorem OwV.base {B B' : Nat} {v : Val} {w : World} {x : Value} (h : OwV B v w x) (hB : B' ≤ B) : OwV B' v w x := by
  obtain ⟨A, c, e1, h1, h2⟩ := h
  exact ⟨A, c, e1, own_base0 h1 hB, h2⟩
theorem Bx1.get {B g : Nat} {v : Val} {w : World} (h : Bx1 B v w (.pointer (some ⟨g, 0, none⟩))) : ∃ A c, Blk w g 24 #[.int .i64 v.k, .int .i64 v.n, .string v.s, .slice A v.l.length c] ∧ Reads w w.heap.size 1 A v.l.length (numV .i64 v.l) ∧ v.s.size ≤ maxLen ∧ v.l.length ≤ maxLen := by
  obtain ⟨q, A, c, hq, -, h1, h2, h3⟩ := h
  obtain rfl : g = q := by injection hq with hq; injection hq with hq; injection hq
  exact ⟨A, c, h1, h2, h3⟩
theorem sameV_self (v : Val) : sameV v v = true := by unfold sameV; simp
def Ra (a b : Ex) (SV : Value) (A R : Option Addr) (n c m c9 : Nat) (B : Nat) (f : Int) (v : Val) (_w0s : Nat) (st : Bool) (t : Nat) (x : Value) (w : World) : Prop :=
  match t with
  | 23 => x = .func (.func 7) #[] #[]
  | 24 => x = .func (.func 7) #[] #[]
  | 25 => st = false → AtE a w x
  | 26 => st = false → AtE b w x
  | 27 => st = false → Sl2 (a) (b) w x
  | 28 => st = false → AtE (opE 2 [a, b]) w x
  | 29 => st = false → Sl1 (opE 2 [a, b]) w x
  | 30 => st = false → AtE (eL a b) w x
  | 31 => x = SV
  | 32 => x = .slice A n c
  | 33 => x = .slice R m c9
  | 34 => ∃ r, x = .tuple #[r, .int .i64 f] ∧ (st = false → OwV B v w r)
  | 22 => ∃ r, x = .tuple #[r, .int .i64 f] ∧ (st = false → OwV B v w r)
  | 35 => st = false → OwV B v w x
  | 36 => x = .int .i64 f
  | 12 => (st = false → Bx0 B w x) ∧ (st = true → Bx1 B v w x)
  | 13 => x = .int .i64 f
  | _ => True
theorem Ra_later {a b : Ex} {SV : Value} {A R : Option Addr} {n c m c9 : Nat} {B : Nat} {f : Int} {v : Val} {w0s : Nat} {st : Bool} {t : Nat} {x : Value} {w w' : World} (hb : Below w.heap.size w w') : Ra a b SV A R n c m c9 B f v w0s st t x w → Ra a b SV A R n c m c9 B f v w0s st t x w' := by
  unfold Ra
  split <;> intro h
  all_goals first
    | exact h
    | exact fun hs => (h hs).later hb
    | (obtain ⟨r, e1, e2⟩ := h; exact ⟨r, e1, fun hs => (e2 hs).later hb⟩)
    | exact ⟨fun hs => (h.1 hs).later hb, fun hs => (h.2 hs).later hb⟩
theorem Ra_stored {a b : Ex} {SV : Value} {A R : Option Addr} {n c m c9 : Nat} {B : Nat} {f : Int} {v : Val} {w0s : Nat} {st : Bool} {t : Nat} {x : Value} {w w' : World} (h12 : t = 12 → Bx1 B v w' x) : Ra a b SV A R n c m c9 B f v w0s st t x w → Ra a b SV A R n c m c9 B f v w0s true t x w' := by
  unfold Ra
  split <;> intro h
  all_goals first
    | exact h
    | (intro hs; cases hs; done)
    | (obtain ⟨r, e1, e2⟩ := h; exact ⟨r, e1, fun hs => by cases hs⟩)
    | exact ⟨fun hs => (by cases hs), fun _ => h12 rfl⟩
def Rb (a b : Ex) (SV : Value) (A R : Option Addr) (n c m c9 : Nat) (B : Nat) (f : Int) (v : Val) (_w0s : Nat) (st : Bool) (t : Nat) (x : Value) (w : World) : Prop :=
  match t with
  | 38 => x = .func (.func 7) #[] #[]
  | 39 => x = .func (.func 7) #[] #[]
  | 40 => st = false → AtE a w x
  | 41 => st = false → Sl1 (a) w x
  | 42 => st = false → AtE (opE 1 [a]) w x
  | 43 => x = .func (.func 7) #[] #[]
  | 44 => st = false → AtE b w x
  | 45 => st = false → Sl1 (b) w x
  | 46 => st = false → AtE (opE 1 [b]) w x
  | 47 => st = false → Sl2 (opE 1 [a]) (opE 1 [b]) w x
  | 48 => st = false → AtE (eR a b) w x
  | 49 => x = SV
  | 50 => x = .slice A n c
  | 51 => x = .slice R m c9
  | 52 => ∃ r, x = .tuple #[r, .int .i64 f] ∧ (st = false → OwV B v w r)
  | 37 => ∃ r, x = .tuple #[r, .int .i64 f] ∧ (st = false → OwV B v w r)
  | 53 => st = false → OwV B v w x
  | 54 => x = .int .i64 f
  | 14 => (st = false → Bx0 B w x) ∧ (st = true → Bx1 B v w x)
  | 15 => x = .int .i64 f
  | _ => True
theorem Rb_later {a b : Ex} {SV : Value} {A R : Option Addr} {n c m c9 : Nat} {B : Nat} {f : Int} {v : Val} {w0s : Nat} {st : Bool} {t : Nat} {x : Value} {w w' : World} (hb : Below w.heap.size w w') : Rb a b SV A R n c m c9 B f v w0s st t x w → Rb a b SV A R n c m c9 B f v w0s st t x w' := by
  unfold Rb
  split <;> intro h
  all_goals first
    | exact h
    | exact fun hs => (h hs).later hb
    | (obtain ⟨r, e1, e2⟩ := h; exact ⟨r, e1, fun hs => (e2 hs).later hb⟩)
    | exact ⟨fun hs => (h.1 hs).later hb, fun hs => (h.2 hs).later hb⟩
theorem Rb_stored {a b : Ex} {SV : Value} {A R : Option Addr} {n c m c9 : Nat} {B : Nat} {f : Int} {v : Val} {w0s : Nat} {st : Bool} {t : Nat} {x : Value} {w w' : World} (h12 : t = 14 → Bx1 B v w' x) : Rb a b SV A R n c m c9 B f v w0s st t x w → Rb a b SV A R n c m c9 B f v w0s true t x w' := by
  unfold Rb
  split <;> intro h
  all_goals first
    | exact h
    | (intro hs; cases hs; done)
    | (obtain ⟨r, e1, e2⟩ := h; exact ⟨r, e1, fun hs => by cases hs⟩)
    | exact ⟨fun hs => (by cases hs), fun _ => h12 rfl⟩
def Rc (a _b : Ex) (SV : Value) (A R : Option Addr) (n c m c9 : Nat) (B : Nat) (f : Int) (v : Val) (_w0s : Nat) (st : Bool) (t : Nat) (x : Value) (w : World) : Prop :=
  match t with
  | 76 => x = .func (.func 7) #[] #[]
  | 77 => x = .func (.func 7) #[] #[]
  | 78 => st = false → AtE a w x
  | 79 => st = false → Sl1 (a) w x
  | 80 => st = false → AtE (opE 1 [a]) w x
  | 81 => st = false → Sl1 (opE 1 [a]) w x
  | 82 => st = false → AtE (opE 1 [opE 1 [a]]) w x
  | 83 => x = SV
  | 84 => x = .slice A n c
  | 85 => x = .slice R m c9
  | 86 => ∃ r, x = .tuple #[r, .int .i64 f] ∧ (st = false → OwV B v w r)
  | 75 => ∃ r, x = .tuple #[r, .int .i64 f] ∧ (st = false → OwV B v w r)
  | 87 => st = false → OwV B v w x
  | 88 => x = .int .i64 f
  | 16 => (st = false → Bx0 B w x) ∧ (st = true → Bx1 B v w x)
  | 17 => x = .int .i64 f
  | _ => True
theorem Rc_later {a b : Ex} {SV : Value} {A R : Option Addr} {n c m c9 : Nat} {B : Nat} {f : Int} {v : Val} {w0s : Nat} {st : Bool} {t : Nat} {x : Value} {w w' : World} (hb : Below w.heap.size w w') : Rc a b SV A R n c m c9 B f v w0s st t x w → Rc a b SV A R n c m c9 B f v w0s st t x w' := by
  unfold Rc
  split <;> intro h
  all_goals first
    | exact h
    | exact fun hs => (h hs).later hb
    | (obtain ⟨r, e1, e2⟩ := h; exact ⟨r, e1, fun hs => (e2 hs).later hb⟩)
    | exact ⟨fun hs => (h.1 hs).later hb, fun hs => (h.2 hs).later hb⟩
theorem Rc_stored {a b : Ex} {SV : Value} {A R : Option Addr} {n c m c9 : Nat} {B : Nat} {f : Int} {v : Val} {w0s : Nat} {st : Bool} {t : Nat} {x : Value} {w w' : World} (h12 : t = 16 → Bx1 B v w' x) : Rc a b SV A R n c m c9 B f v w0s st t x w → Rc a b SV A R n c m c9 B f v w0s true t x w' := by
  unfold Rc
  split <;> intro h
  all_goals first
    | exact h
    | (intro hs; cases hs; done)
    | (obtain ⟨r, e1, e2⟩ := h; exact ⟨r, e1, fun hs => by cases hs⟩)
    | exact ⟨fun hs => (by cases hs), fun _ => h12 rfl⟩
theorem opposites_1 (S : SceneD) (a b : Ex) (cs ds : List Value) (A : Option Addr) (c n m : Nat) (AC AN AB AR : Option Addr) (cc cn cb cr B : Nat) (R : Option Addr) (c9 : Nat) (w : World) (f1 f2 f3 f4 : Int) (v1 v2 v3 v4 : Val) (hx : ExAt w B a cs) (hy : ExAt w B b ds) (hB : B ≤ w.heap.size) (haw : ∀ w', Below w.heap.size w w' → Calls Tryz.prog 6 #[] w' fun en w'' => en = .returned (.bool true) ∧ Below w'.heap.size w' w'')
    (h1 : ∀ cs' w', Below w.heap.size w w' → ExAt w' w'.heap.size (eL a b) cs' → Calls Tryz.prog 8 #[.agg cs'.toArray, .agg #[.slice AC S.cells.length cc, .slice AN S.loops.length cn, .slice AB S.bounds.length cb, .slice AR S.rows.length cr], .slice A n c, .slice R m c9] w' fun en w'' => (∃ x, en = .returned (.tuple #[x, .int .i64 f1]) ∧ OwV w'.heap.size v1 w'' x) ∧ Below w'.heap.size w' w'') (h2 : ∀ cs' w', Below w.heap.size w w' → ExAt w' w'.heap.size (eR a b) cs' → Calls Tryz.prog 8 #[.agg cs'.toArray, .agg #[.slice AC S.cells.length cc, .slice AN S.loops.length cn, .slice AB S.bounds.length cb, .slice AR S.rows.length cr], .slice A n c, .slice R m c9] w' fun en w'' => (∃ x, en = .returned (.tuple #[x, .int .i64 f2]) ∧ OwV w'.heap.size v2 w'' x) ∧ Below w'.heap.size w' w'') (h3 : ∀ cs' w', Below w.heap.size w w' → ExAt w' w'.heap.size (opE 1 [opE 1 [a]]) cs' → Calls Tryz.prog 8 #[.agg cs'.toArray, .agg #[.slice AC S.cells.length cc, .slice AN S.loops.length cn, .slice AB S.bounds.length cb, .slice AR S.rows.length cr], .slice A n c, .slice R m c9] w' fun en w'' => (∃ x, en = .returned (.tuple #[x, .int .i64 f3]) ∧ OwV w'.heap.size v3 w'' x) ∧ Below w'.heap.size w' w'') (h4 : ∀ cs' w', Below w.heap.size w w' → ExAt w' w'.heap.size (a) cs' → Calls Tryz.prog 8 #[.agg cs'.toArray, .agg #[.slice AC S.cells.length cc, .slice AN S.loops.length cn, .slice AB S.bounds.length cb, .slice AR S.rows.length cr], .slice A n c, .slice R m c9] w' fun en w'' => (∃ x, en = .returned (.tuple #[x, .int .i64 f4]) ∧ OwV w'.heap.size v4 w'' x) ∧ Below w'.heap.size w' w'')
    (hl : (f1 = 0 ∧ f2 = 0) ∨ (f1 ≠ 0 ∧ f2 ≠ 0) ∨ f1 = 2 ∨ f2 = 2) (hv : f1 = 0 → f2 = 0 → v1 = v2) (hu : f3 = 0 → f4 = 0 → v3 = v4) :
    Calls Tryz.prog 3 #[.agg cs.toArray, .agg ds.toArray, .agg #[.slice AC S.cells.length cc, .slice AN S.loops.length cn, .slice AB S.bounds.length cb, .slice AR S.rows.length cr], .slice A n c, .slice R m c9] w fun en w' => en = .returned (.bool true) ∧ Below w.heap.size w w' := by
  have HAW := Lib.hid haw
  have HEL := Lib.hid h1
  have HER := Lib.hid h2
  have HEN := Lib.hid h3
  have HEA := Lib.hid h4
  have HLW := Lib.hid (And.intro hl (And.intro hv hu))
  have HXA0 := Lib.hid hx
  have HXB0 := Lib.hid hy
  obtain ⟨hn0, hs0, hl0, ha0, hx0, hr0, hi0⟩ := hx
  rename_i Aa ca Aa' ca' csa
  obtain ⟨hn1, hs1, hl1, ha1, hx1, hr1, hi1⟩ := hy
  rename_i Ab cb' Ab' cb'' csb
  have HXA := Lib.hid (show ∀ w', Below w.heap.size w w' → ExAt w' w'.heap.size a (exCells a Aa ca Aa' ca') from fun w' hb => (HXA0.out.keep (hb.mono hB)).up (Nat.le_trans hB hb.size))
  have HXB := Lib.hid (show ∀ w', Below w.heap.size w w' → ExAt w' w'.heap.size b (exCells b Ab cb' Ab' cb'') from fun w' hb => (HXB0.out.keep (hb.mono hB)).up (Nat.le_trans hB hb.size))
  obtain ⟨W, hW, hbw, BA, BB, BS, hsz⟩ := box3 w 27 27 33 (exCells a Aa ca Aa' ca').toArray (exCells b Ab cb' Ab' cb'').toArray #[.slice AC S.cells.length cc, .slice AN S.loops.length cn, .slice AB S.bounds.length cb, .slice AR S.rows.length cr]
  have HBA := Lib.hid BA
  have HBB := Lib.hid BB
  have HBS := Lib.hid BS
  rw [show exCells a Aa ca Aa' ca' = [.int .i64 a.k, .int .i64 a.op, .string a.nm, .int .i64 a.v.k, .int .i64 a.v.n, .string a.v.s, .slice Aa a.v.l.length ca, .slice Aa' a.ar.length ca'] from rfl, show exCells b Ab cb' Ab' cb'' = [.int .i64 b.k, .int .i64 b.op, .string b.nm, .int .i64 b.v.k, .int .i64 b.v.n, .string b.v.s, .slice Ab b.v.l.length cb', .slice Ab' b.ar.length cb''] from rfl] at hW
  rw [show exCells a Aa ca Aa' ca' = [.int .i64 a.k, .int .i64 a.op, .string a.nm, .int .i64 a.v.k, .int .i64 a.v.n, .string a.v.s, .slice Aa a.v.l.length ca, .slice Aa' a.ar.length ca'] from rfl, show exCells b Ab cb' Ab' cb'' = [.int .i64 b.k, .int .i64 b.op, .string b.nm, .int .i64 b.v.k, .int .i64 b.v.n, .string b.v.s, .slice Ab b.v.l.length cb', .slice Ab' b.ar.length cb''] from rfl]
  change Calls _ _ #[.agg #[.int .i64 a.k, .int .i64 a.op, .string a.nm, .int .i64 a.v.k, .int .i64 a.v.n, .string a.v.s, .slice Aa a.v.l.length ca, .slice Aa' a.ar.length ca'], .agg #[.int .i64 b.k, .int .i64 b.op, .string b.nm, .int .i64 b.v.k, .int .i64 b.v.n, .string b.v.s, .slice Ab b.v.l.length cb', .slice Ab' b.ar.length cb''], _, _, _] _ _
  clear hx0 hr0 hi0 hx1 hr1 hi1 haw h1 h2 h3 h4 hl hv hu HXA0 HXB0 hn0 hs0 hl0 ha0 hn1 hs1 hl1 ha1 hsz BA BB BS hB
  go_enter Tryz.func3, Tryz.ntmps3
  go_upto_region 1 with (fail)
  rw [← hW]
  clear hW
  go_upto_region 4 with (go_at_call 6; (with_reducible refine (HAW.out _ hbw).mono ?_); rintro e1 W1 ⟨rfl, hb1⟩)
  have hbw1 := hbw.trans (hb1.mono hbw.size)
  have HBA := Lib.hid (HBA.out.below hb1 HBA.out.lt)
  have HBB := Lib.hid (HBB.out.below hb1 HBB.out.lt)
  have HBS := Lib.hid (HBS.out.below hb1 HBS.out.lt)
  refine wp_region_inv (by kernel_rfl) (fun w' => Below W1.heap.size W1 w') (fun st t x w' => Ra a b (.agg #[.slice AC S.cells.length cc, .slice AN S.loops.length cn, .slice AB S.bounds.length cb, .slice AR S.rows.length cr]) A R n c m c9 W1.heap.size f1 v1 w.heap.size st t x w') 16 (by kernel_rfl) ((Below.refl _ _).drew) ?_ ?_
  · intro i o listed a1 w1 h ho hl hd K hK
    have hi : i < 18 := (Array.getElem?_eq_some_iff.1 ho).1
    have hB := h.hc
    obtain rfl | rfl | rfl | rfl | rfl | rfl | rfl | rfl | rfl | rfl | rfl | rfl | rfl | rfl | rfl | rfl | rfl | rfl : i = 0 ∨ i = 1 ∨ i = 2 ∨ i = 3 ∨ i = 4 ∨ i = 5 ∨ i = 6 ∨ i = 7 ∨ i = 8 ∨ i = 9 ∨ i = 10 ∨ i = 11 ∨ i = 12 ∨ i = 13 ∨ i = 14 ∨ i = 15 ∨ i = 16 ∨ i = 17 := by omega
    · cases ho
      have o11 : a1.tmps[11]?.getD undef = .func (.func 7) #[] #[] := h.keep_ 11 (by kernel_rfl)
      refine wp_val (w' := w1) (v := .func (.func 7) #[] #[]) (by simp [execOp, Act.eval, go_sem, o11]) ?_
      exact hK _ _ (h.put (by kernel_rfl) rfl hd rfl hB (fun _ _ hx => hx) rfl)
    · cases ho
      have o11 : a1.tmps[11]?.getD undef = .func (.func 7) #[] #[] := h.keep_ 11 (by kernel_rfl)
      refine wp_val (w' := w1) (v := .func (.func 7) #[] #[]) (by simp [execOp, Act.eval, go_sem, o11]) ?_
      exact hK _ _ (h.put (by kernel_rfl) rfl hd rfl hB (fun _ _ hx => hx) rfl)
    · cases ho
      have o5 : a1.tmps[5]?.getD undef = .pointer (some ⟨w.heap.size, 0, none⟩) := h.keep_ 5 (by kernel_rfl)
      have hq := HBA.out.below hB HBA.out.lt
      have q0 : w1.cell? ⟨w.heap.size, 0, none⟩ = _ := hq.cell 0
      have q1 : w1.cell? ⟨w.heap.size, 1, none⟩ = _ := hq.cell 1
      have q2 : w1.cell? ⟨w.heap.size, 2, none⟩ = _ := hq.cell 2
      have q3 : w1.cell? ⟨w.heap.size, 3, none⟩ = _ := hq.cell 3
      have q4 : w1.cell? ⟨w.heap.size, 4, none⟩ = _ := hq.cell 4
      have q5 : w1.cell? ⟨w.heap.size, 5, none⟩ = _ := hq.cell 5
      have q6 : w1.cell? ⟨w.heap.size, 6, none⟩ = _ := hq.cell 6
      have q7 : w1.cell? ⟨w.heap.size, 7, none⟩ = _ := hq.cell 7
      simp only [List.getElem?_toArray, exCells, List.getElem?_cons_zero, List.getElem?_cons_succ] at q0 q1 q2 q3 q4 q5 q6 q7
      refine wp_val (w' := w1) (v := .agg #[.int .i64 a.k, .int .i64 a.op, .string a.nm, .int .i64 a.v.k, .int .i64 a.v.n, .string a.v.s, .slice Aa a.v.l.length ca, .slice Aa' a.ar.length ca']) (by simp [execOp, Act.eval, go_sem, o5, q0, q1, q2, q3, q4, q5, q6, q7]) ?_
      exact hK _ _ (h.put (by kernel_rfl) rfl hd rfl hB (fun _ _ hx => hx) (fun _ => ⟨_, _, _, _, rfl, (HXA.out _ (hbw1.trans (hB.mono hbw1.size)))⟩))
    · cases ho
      have o6 : a1.tmps[6]?.getD undef = .pointer (some ⟨w.heap.size + 1, 0, none⟩) := h.keep_ 6 (by kernel_rfl)
      have hq := HBB.out.below hB HBB.out.lt
      have q0 : w1.cell? ⟨w.heap.size + 1, 0, none⟩ = _ := hq.cell 0
      have q1 : w1.cell? ⟨w.heap.size + 1, 1, none⟩ = _ := hq.cell 1
      have q2 : w1.cell? ⟨w.heap.size + 1, 2, none⟩ = _ := hq.cell 2
      have q3 : w1.cell? ⟨w.heap.size + 1, 3, none⟩ = _ := hq.cell 3
      have q4 : w1.cell? ⟨w.heap.size + 1, 4, none⟩ = _ := hq.cell 4
      have q5 : w1.cell? ⟨w.heap.size + 1, 5, none⟩ = _ := hq.cell 5
      have q6 : w1.cell? ⟨w.heap.size + 1, 6, none⟩ = _ := hq.cell 6
      have q7 : w1.cell? ⟨w.heap.size + 1, 7, none⟩ = _ := hq.cell 7
      simp only [List.getElem?_toArray, exCells, List.getElem?_cons_zero, List.getElem?_cons_succ] at q0 q1 q2 q3 q4 q5 q6 q7
      refine wp_val (w' := w1) (v := .agg #[.int .i64 b.k, .int .i64 b.op, .string b.nm, .int .i64 b.v.k, .int .i64 b.v.n, .string b.v.s, .slice Ab b.v.l.length cb', .slice Ab' b.ar.length cb'']) (by simp [execOp, Act.eval, go_sem, o6, q0, q1, q2, q3, q4, q5, q6, q7]) ?_
      exact hK _ _ (h.put (by kernel_rfl) rfl hd rfl hB (fun _ _ hx => hx) (fun _ => ⟨_, _, _, _, rfl, (HXB.out _ (hbw1.trans (hB.mono hbw1.size)))⟩))
    · cases ho
      have hst := h.notyet 4 [5, 6, 7, 11, 12, 13, 16] hl (by kernel_rfl) rfl
      obtain ⟨x25, e25, r25⟩ := h.at_ 2 rfl (dep_listed hd 2 (by kernel_rfl)) rfl
      obtain ⟨x26, e26, r26⟩ := h.at_ 3 rfl (dep_listed hd 3 (by kernel_rfl)) rfl
      obtain ⟨A1, c1, A2, c2, rfl, hx⟩ := r25 hst
      obtain ⟨A3, c3, A4, c4, rfl, hy⟩ := r26 hst
      refine wp_val (w' := w1.alloc (.cells #[.int .i64 a.k, .int .i64 a.op, .string a.nm, .int .i64 a.v.k, .int .i64 a.v.n, .string a.v.s, .slice A1 a.v.l.length c1, .slice A2 a.ar.length c2, .int .i64 b.k, .int .i64 b.op, .string b.nm, .int .i64 b.v.k, .int .i64 b.v.n, .string b.v.s, .slice A3 b.v.l.length c3, .slice A4 b.ar.length c4] 27 (0, 0))) (v := .slice (some ⟨w1.heap.size, 0, none⟩) 2 2) (by simp [execOp, Act.eval, go_sem, e25, e26]) ?_
      have hbs := below_a w1 (.cells #[.int .i64 a.k, .int .i64 a.op, .string a.nm, .int .i64 a.v.k, .int .i64 a.v.n, .string a.v.s, .slice A1 a.v.l.length c1, .slice A2 a.ar.length c2, .int .i64 b.k, .int .i64 b.op, .string b.nm, .int .i64 b.v.k, .int .i64 b.v.n, .string b.v.s, .slice A3 b.v.l.length c3, .slice A4 b.ar.length c4] 27 (0, 0))
      exact hK _ _ (h.put (by kernel_rfl) rfl hd rfl (hB.trans (hbs.mono hB.size)) (fun _ _ hx => Ra_later hbs hx) (fun _ => ⟨_, _, _, _, _, _, _, _, _, rfl, Blk.new w1 _ _, hx.later hbs, hy.later hbs⟩))
    · cases ho
      have hst := h.notyet 5 [6, 7, 11, 12, 13, 16] hl (by kernel_rfl) rfl
      obtain ⟨x24, e24, r24⟩ := h.at_ 1 rfl (dep_listed hd 1 (by kernel_rfl)) rfl
      obtain ⟨x27, e27, r27⟩ := h.at_ 4 rfl (dep_listed hd 4 (by kernel_rfl)) rfl
      have r24 : x24 = .func (.func 7) #[] #[] := r24
      subst r24
      obtain ⟨g1, A1, c1, A2, c2, A3, c3, A4, c4, rfl, hb1, hx, hy⟩ := r27 hst
      refine wp_in (w' := w1) (f := 7) (args := #[.int .i64 2, .slice (some ⟨g1, 0, none⟩) 2 2]) (by simp [execOp, Act.eval, go_sem, e24, e27]) ?_
      refine (built_any 2 (some ⟨g1, 0, none⟩) 2 2 w1).mono ?_
      rintro en w2 ⟨rfl, hbs⟩
      exact ⟨_, rfl, hK _ _ (h.put (by kernel_rfl) rfl hd rfl (hB.trans (hbs.mono hB.size)) (fun _ _ hx => Ra_later hbs hx) (fun _ => ⟨none, 0, some ⟨g1, 0, none⟩, 2, rfl, ExAt.op2 (hx.later hbs) (hy.later hbs) (hb1.below hbs hb1.lt) (Nat.lt_of_lt_of_le hb1.lt hbs.size)⟩))⟩
    · cases ho
      have hst := h.notyet 6 [7, 11, 12, 13, 16] hl (by kernel_rfl) rfl
      obtain ⟨x28, e28, r28⟩ := h.at_ 5 rfl (dep_listed hd 5 (by kernel_rfl)) rfl
      obtain ⟨A1, c1, A2, c2, rfl, hx⟩ := r28 hst
      refine wp_val (w' := w1.alloc (.cells #[.int .i64 (opE 2 [a, b]).k, .int .i64 (opE 2 [a, b]).op, .string (opE 2 [a, b]).nm, .int .i64 (opE 2 [a, b]).v.k, .int .i64 (opE 2 [a, b]).v.n, .string (opE 2 [a, b]).v.s, .slice A1 (opE 2 [a, b]).v.l.length c1, .slice A2 (opE 2 [a, b]).ar.length c2] 27 (0, 0))) (v := .slice (some ⟨w1.heap.size, 0, none⟩) 1 1) (by simp [execOp, Act.eval, go_sem, e28]) ?_
      have hbs := below_a w1 (.cells #[.int .i64 (opE 2 [a, b]).k, .int .i64 (opE 2 [a, b]).op, .string (opE 2 [a, b]).nm, .int .i64 (opE 2 [a, b]).v.k, .int .i64 (opE 2 [a, b]).v.n, .string (opE 2 [a, b]).v.s, .slice A1 (opE 2 [a, b]).v.l.length c1, .slice A2 (opE 2 [a, b]).ar.length c2] 27 (0, 0))
      exact hK _ _ (h.put (by kernel_rfl) rfl hd rfl (hB.trans (hbs.mono hB.size)) (fun _ _ hx => Ra_later hbs hx) (fun _ => ⟨_, _, _, _, _, rfl, Blk.new w1 _ _, hx.later hbs⟩))
    · cases ho
      have hst := h.notyet 7 [11, 12, 13, 16] hl (by kernel_rfl) rfl
      obtain ⟨x23, e23, r23⟩ := h.at_ 0 rfl (dep_listed hd 0 (by kernel_rfl)) rfl
      obtain ⟨x29, e29, r29⟩ := h.at_ 6 rfl (dep_listed hd 6 (by kernel_rfl)) rfl
      have r23 : x23 = .func (.func 7) #[] #[] := r23
      subst r23
      obtain ⟨g1, A1, c1, A2, c2, rfl, hb1, hx⟩ := r29 hst
      refine wp_in (w' := w1) (f := 7) (args := #[.int .i64 1, .slice (some ⟨g1, 0, none⟩) 1 1]) (by simp [execOp, Act.eval, go_sem, e23, e29]) ?_
      refine (built_any 1 (some ⟨g1, 0, none⟩) 1 1 w1).mono ?_
      rintro en w2 ⟨rfl, hbs⟩
      exact ⟨_, rfl, hK _ _ (h.put (by kernel_rfl) rfl hd rfl (hB.trans (hbs.mono hB.size)) (fun _ _ hx => Ra_later hbs hx) (fun _ => ⟨none, 0, some ⟨g1, 0, none⟩, 1, rfl, ExAt.op1 (hx.later hbs) (hb1.below hbs hb1.lt) (Nat.lt_of_lt_of_le hb1.lt hbs.size)⟩))⟩
    · cases ho
      have o7 : a1.tmps[7]?.getD undef = .pointer (some ⟨w.heap.size + 2, 0, none⟩) := h.keep_ 7 (by kernel_rfl)
      have hq := HBS.out.below hB HBS.out.lt
      have q0 : w1.cell? ⟨w.heap.size + 2, 0, none⟩ = some (.slice AC S.cells.length cc) := hq.cell 0
      have q1 : w1.cell? ⟨w.heap.size + 2, 1, none⟩ = some (.slice AN S.loops.length cn) := hq.cell 1
      have q2 : w1.cell? ⟨w.heap.size + 2, 2, none⟩ = some (.slice AB S.bounds.length cb) := hq.cell 2
      have q3 : w1.cell? ⟨w.heap.size + 2, 3, none⟩ = some (.slice AR S.rows.length cr) := hq.cell 3
      refine wp_val (w' := w1) (v := .agg #[.slice AC S.cells.length cc, .slice AN S.loops.length cn, .slice AB S.bounds.length cb, .slice AR S.rows.length cr]) (by simp [execOp, Act.eval, go_sem, o7, q0, q1, q2, q3]) ?_
      exact hK _ _ (h.put (by kernel_rfl) rfl hd rfl hB (fun _ _ hx => hx) rfl)
    · cases ho
      have o3 : a1.tmps[3]?.getD undef = .slice A n c := h.keep_ 3 (by kernel_rfl)
      refine wp_val (w' := w1) (v := .slice A n c) (by simp [execOp, Act.eval, go_sem, o3]) ?_
      exact hK _ _ (h.put (by kernel_rfl) rfl hd rfl hB (fun _ _ hx => hx) rfl)
    · cases ho
      have o4 : a1.tmps[4]?.getD undef = .slice R m c9 := h.keep_ 4 (by kernel_rfl)
      refine wp_val (w' := w1) (v := .slice R m c9) (by simp [execOp, Act.eval, go_sem, o4]) ?_
      exact hK _ _ (h.put (by kernel_rfl) rfl hd rfl hB (fun _ _ hx => hx) rfl)
    · cases ho
      have hst := h.notyet 11 [12, 13, 16] hl (by kernel_rfl) rfl
      obtain ⟨x30, e30, r30⟩ := h.at_ 7 rfl (dep_listed hd 7 (by kernel_rfl)) rfl
      obtain ⟨x31, e31, r31⟩ := h.at_ 8 rfl (dep_listed hd 8 (by kernel_rfl)) rfl
      obtain ⟨x32, e32, r32⟩ := h.at_ 9 rfl (dep_listed hd 9 (by kernel_rfl)) rfl
      obtain ⟨x33, e33, r33⟩ := h.at_ 10 rfl (dep_listed hd 10 (by kernel_rfl)) rfl
      have r31 : x31 = .agg #[.slice AC S.cells.length cc, .slice AN S.loops.length cn, .slice AB S.bounds.length cb, .slice AR S.rows.length cr] := r31
      have r32 : x32 = .slice A n c := r32
      have r33 : x33 = .slice R m c9 := r33
      subst r31 r32 r33
      obtain ⟨A1, c1, A2, c2, rfl, hx⟩ := r30 hst
      refine wp_in (w' := w1) (f := 8) (args := #[.agg #[.int .i64 (eL a b).k, .int .i64 (eL a b).op, .string (eL a b).nm, .int .i64 (eL a b).v.k, .int .i64 (eL a b).v.n, .string (eL a b).v.s, .slice A1 (eL a b).v.l.length c1, .slice A2 (eL a b).ar.length c2], .agg #[.slice AC S.cells.length cc, .slice AN S.loops.length cn, .slice AB S.bounds.length cb, .slice AR S.rows.length cr], .slice A n c, .slice R m c9]) (by simp [execOp, Act.eval, go_sem, e30, e31, e32, e33]) ?_
      refine (HEL.out _ w1 (hbw1.trans (hB.mono hbw1.size)) hx).mono ?_
      rintro en w2 ⟨⟨r, rfl, hr⟩, hbs⟩
      exact ⟨_, rfl, hK _ _ (h.put (by kernel_rfl) rfl hd rfl (hB.trans (hbs.mono hB.size)) (fun _ _ hx => Ra_later hbs hx) ⟨r, rfl, fun _ => hr.base hB.size⟩)⟩
    · cases ho
      obtain ⟨x34, e34, r34⟩ := h.at_ 11 rfl (dep_listed hd 11 (by kernel_rfl)) rfl
      refine wp_val (w' := w1) (v := x34) (by simp [execOp, Act.eval, go_sem, e34]) ?_
      exact hK _ _ (h.put (by kernel_rfl) rfl hd rfl hB (fun _ _ hx => hx) r34)
    · cases ho
      obtain ⟨x22, e22, r22⟩ := h.at_ 12 rfl (dep_listed hd 12 (by kernel_rfl)) rfl
      obtain ⟨r, rfl, hr⟩ := r22
      refine wp_val (w' := w1) (v := r) (by simp [execOp, Act.eval, go_sem, e22]) ?_
      exact hK _ _ (h.put (by kernel_rfl) rfl hd rfl hB (fun _ _ hx => hx) hr)
    · cases ho
      obtain ⟨x22, e22, r22⟩ := h.at_ 12 rfl (dep_listed hd 12 (by kernel_rfl)) rfl
      obtain ⟨r, rfl, hr⟩ := r22
      refine wp_val (w' := w1) (v := .int .i64 f1) (by simp [execOp, Act.eval, go_sem, e22]) ?_
      exact hK _ _ (h.put (by kernel_rfl) rfl hd rfl hB (fun _ _ hx => hx) rfl)
    · cases ho
      have hst := h.notyet 15 [16] hl (by kernel_rfl) rfl
      refine wp_val (w' := w1.alloc (.cells #[.int .i64 0, .int .i64 0, .string ⟨#[]⟩, .slice none 0 0] 24 (0, 0))) (v := .pointer (some ⟨w1.heap.size, 0, none⟩)) (by simp [execOp, go_sem]) ?_
      have hbs := below_a w1 (.cells #[.int .i64 0, .int .i64 0, .string ⟨#[]⟩, .slice none 0 0] 24 (0, 0))
      exact hK _ _ (h.put (by kernel_rfl) rfl hd rfl (hB.trans (hbs.mono hB.size)) (fun _ _ hx => Ra_later hbs hx) ⟨fun _ => ⟨_, rfl, hB.size, Blk.new w1 _ _⟩, fun hs => absurd (hst.symm.trans hs) (by decide)⟩)
    · cases ho
      have hst := h.notyet 16 [] hl (by kernel_rfl) rfl
      obtain ⟨x12, e12, r12⟩ := h.at_ 15 rfl (dep_listed hd 15 (by kernel_rfl)) rfl
      obtain ⟨x35, e35, r35⟩ := h.at_ 13 rfl (dep_listed hd 13 (by kernel_rfl)) rfl
      obtain ⟨g1, rfl, hg1, hb1⟩ := r12.1 hst
      obtain ⟨A1, c1, rfl, ho1, hs1⟩ := r35 hst
      obtain ⟨W2, hW2, hbx, hbs⟩ := Bx1.stored hg1 hb1 ho1 hs1
      obtain ⟨y0, z0, y1, z1, y2, z2, y3, z3⟩ := Blk.z4 hb1
      refine wp_skip (w' := W2) (by rw [hW2]; simp [execOp, Act.eval, go_sem, e12, e35, y0, y1, y2, y3, z0, z1, z2, z3]) ?_
      refine hK _ _ (h.store rfl hd rfl (hB.trans hbs) fun i' o' t' ho' hl' ht' x' hx' hr' => ?_)
      refine Ra_stored (fun e => ?_) hr'
      subst e
      have : x' = .pointer (some ⟨g1, 0, none⟩) := by
        rw [hx'] at e12
        exact e12
      rw [this]
      exact hbx
    · cases ho
      obtain ⟨x36, e36, r36⟩ := h.at_ 14 rfl (dep_listed hd 14 (by kernel_rfl)) rfl
      have r36 : x36 = .int .i64 f1 := r36
      subst r36
      refine wp_val (w' := w1) (v := .int .i64 f1) (by simp [execOp, Act.eval, go_sem, e36]) ?_
      exact hK _ _ (h.put (by kernel_rfl) rfl hd rfl hB (fun _ _ hx => hx) rfl)
  intro listed a1 W2 h hall
  have hsz := h.tsize
  have hdf := h.defers
  have hbW2 : Below W1.heap.size W1 W2 := h.hc
  obtain ⟨x12, e12, r12⟩ := h.at_ 15 rfl (hall 15 (by decide)) rfl
  obtain ⟨x13, e13, r13⟩ := h.at_ 17 rfl (hall 17 (by decide)) rfl
  have hst : listed.getD 16 false = true := hall 16 (by decide)
  obtain ⟨g12, A12, c12, rfl, hg12, BX12, RX12, HX12⟩ := r12.2 hst
  have r13 : x13 = .int .i64 f1 := r13
  subst r13
  have o3 : a1.tmps[3]?.getD undef = .slice A n c := h.keep_ 3 (by kernel_rfl)
  have o4 : a1.tmps[4]?.getD undef = .slice R m c9 := h.keep_ 4 (by kernel_rfl)
  have o5 : a1.tmps[5]?.getD undef = .pointer (some ⟨w.heap.size, 0, none⟩) := h.keep_ 5 (by kernel_rfl)
  have o6 : a1.tmps[6]?.getD undef = .pointer (some ⟨w.heap.size + 1, 0, none⟩) := h.keep_ 6 (by kernel_rfl)
  have o7 : a1.tmps[7]?.getD undef = .pointer (some ⟨w.heap.size + 2, 0, none⟩) := h.keep_ 7 (by kernel_rfl)
  have o11 : a1.tmps[11]?.getD undef = .func (.func 7) #[] #[] := h.keep_ 11 (by kernel_rfl)
  have hT := slots_eq a1.tmps 113 hsz
  rw [show ((List.range 113).map (fun i => a1.tmps[i]?.getD undef)).toArray = #[a1.tmps[0]?.getD undef, a1.tmps[1]?.getD undef, a1.tmps[2]?.getD undef, a1.tmps[3]?.getD undef, a1.tmps[4]?.getD undef, a1.tmps[5]?.getD undef, a1.tmps[6]?.getD undef, a1.tmps[7]?.getD undef, a1.tmps[8]?.getD undef, a1.tmps[9]?.getD undef, a1.tmps[10]?.getD undef, a1.tmps[11]?.getD undef, a1.tmps[12]?.getD undef, a1.tmps[13]?.getD undef, a1.tmps[14]?.getD undef, a1.tmps[15]?.getD undef, a1.tmps[16]?.getD undef, a1.tmps[17]?.getD undef, a1.tmps[18]?.getD undef, a1.tmps[19]?.getD undef, a1.tmps[20]?.getD undef, a1.tmps[21]?.getD undef, a1.tmps[22]?.getD undef, a1.tmps[23]?.getD undef, a1.tmps[24]?.getD undef, a1.tmps[25]?.getD undef, a1.tmps[26]?.getD undef, a1.tmps[27]?.getD undef, a1.tmps[28]?.getD undef, a1.tmps[29]?.getD undef, a1.tmps[30]?.getD undef, a1.tmps[31]?.getD undef, a1.tmps[32]?.getD undef, a1.tmps[33]?.getD undef, a1.tmps[34]?.getD undef, a1.tmps[35]?.getD undef, a1.tmps[36]?.getD undef, a1.tmps[37]?.getD undef, a1.tmps[38]?.getD undef, a1.tmps[39]?.getD undef, a1.tmps[40]?.getD undef, a1.tmps[41]?.getD undef, a1.tmps[42]?.getD undef, a1.tmps[43]?.getD undef, a1.tmps[44]?.getD undef, a1.tmps[45]?.getD undef, a1.tmps[46]?.getD undef, a1.tmps[47]?.getD undef, a1.tmps[48]?.getD undef, a1.tmps[49]?.getD undef, a1.tmps[50]?.getD undef, a1.tmps[51]?.getD undef, a1.tmps[52]?.getD undef, a1.tmps[53]?.getD undef, a1.tmps[54]?.getD undef, a1.tmps[55]?.getD undef, a1.tmps[56]?.getD undef, a1.tmps[57]?.getD undef, a1.tmps[58]?.getD undef, a1.tmps[59]?.getD undef, a1.tmps[60]?.getD undef, a1.tmps[61]?.getD undef, a1.tmps[62]?.getD undef, a1.tmps[63]?.getD undef, a1.tmps[64]?.getD undef, a1.tmps[65]?.getD undef, a1.tmps[66]?.getD undef, a1.tmps[67]?.getD undef, a1.tmps[68]?.getD undef, a1.tmps[69]?.getD undef, a1.tmps[70]?.getD undef, a1.tmps[71]?.getD undef, a1.tmps[72]?.getD undef, a1.tmps[73]?.getD undef, a1.tmps[74]?.getD undef, a1.tmps[75]?.getD undef, a1.tmps[76]?.getD undef, a1.tmps[77]?.getD undef, a1.tmps[78]?.getD undef, a1.tmps[79]?.getD undef, a1.tmps[80]?.getD undef, a1.tmps[81]?.getD undef, a1.tmps[82]?.getD undef, a1.tmps[83]?.getD undef, a1.tmps[84]?.getD undef, a1.tmps[85]?.getD undef, a1.tmps[86]?.getD undef, a1.tmps[87]?.getD undef, a1.tmps[88]?.getD undef, a1.tmps[89]?.getD undef, a1.tmps[90]?.getD undef, a1.tmps[91]?.getD undef, a1.tmps[92]?.getD undef, a1.tmps[93]?.getD undef, a1.tmps[94]?.getD undef, a1.tmps[95]?.getD undef, a1.tmps[96]?.getD undef, a1.tmps[97]?.getD undef, a1.tmps[98]?.getD undef, a1.tmps[99]?.getD undef, a1.tmps[100]?.getD undef, a1.tmps[101]?.getD undef, a1.tmps[102]?.getD undef, a1.tmps[103]?.getD undef, a1.tmps[104]?.getD undef, a1.tmps[105]?.getD undef, a1.tmps[106]?.getD undef, a1.tmps[107]?.getD undef, a1.tmps[108]?.getD undef, a1.tmps[109]?.getD undef, a1.tmps[110]?.getD undef, a1.tmps[111]?.getD undef, a1.tmps[112]?.getD undef] from rfl] at hT
  rw [e12, e13, o3, o4, o5, o6, o7, o11] at hT
  clear h hall hst e12 e13 r12 o3 o4 o5 o6 o7 o11 hsz
  generalize a1.tmps[0]?.getD undef = y0 at hT
  generalize a1.tmps[1]?.getD undef = y1 at hT
  generalize a1.tmps[2]?.getD undef = y2 at hT
  generalize a1.tmps[8]?.getD undef = y8 at hT
  generalize a1.tmps[9]?.getD undef = y9 at hT
  generalize a1.tmps[10]?.getD undef = y10 at hT
  generalize a1.tmps[14]?.getD undef = y14 at hT
  generalize a1.tmps[15]?.getD undef = y15 at hT
  generalize a1.tmps[16]?.getD undef = y16 at hT
  generalize a1.tmps[17]?.getD undef = y17 at hT
  generalize a1.tmps[18]?.getD undef = y18 at hT
  generalize a1.tmps[19]?.getD undef = y19 at hT
  generalize a1.tmps[20]?.getD undef = y20 at hT
  generalize a1.tmps[21]?.getD undef = y21 at hT
  generalize a1.tmps[22]?.getD undef = y22 at hT
  generalize a1.tmps[23]?.getD undef = y23 at hT
  generalize a1.tmps[24]?.getD undef = y24 at hT
  generalize a1.tmps[25]?.getD undef = y25 at hT
  generalize a1.tmps[26]?.getD undef = y26 at hT
  generalize a1.tmps[27]?.getD undef = y27 at hT
  generalize a1.tmps[28]?.getD undef = y28 at hT
  generalize a1.tmps[29]?.getD undef = y29 at hT
  generalize a1.tmps[30]?.getD undef = y30 at hT
  generalize a1.tmps[31]?.getD undef = y31 at hT
  generalize a1.tmps[32]?.getD undef = y32 at hT
  generalize a1.tmps[33]?.getD undef = y33 at hT
  generalize a1.tmps[34]?.getD undef = y34 at hT
  generalize a1.tmps[35]?.getD undef = y35 at hT
  generalize a1.tmps[36]?.getD undef = y36 at hT
  generalize a1.tmps[37]?.getD undef = y37 at hT
  generalize a1.tmps[38]?.getD undef = y38 at hT
  generalize a1.tmps[39]?.getD undef = y39 at hT
  generalize a1.tmps[40]?.getD undef = y40 at hT
  generalize a1.tmps[41]?.getD undef = y41 at hT
  generalize a1.tmps[42]?.getD undef = y42 at hT
  generalize a1.tmps[43]?.getD undef = y43 at hT
  generalize a1.tmps[44]?.getD undef = y44 at hT
  generalize a1.tmps[45]?.getD undef = y45 at hT
  generalize a1.tmps[46]?.getD undef = y46 at hT
  generalize a1.tmps[47]?.getD undef = y47 at hT
  generalize a1.tmps[48]?.getD undef = y48 at hT
  generalize a1.tmps[49]?.getD undef = y49 at hT
  generalize a1.tmps[50]?.getD undef = y50 at hT
  generalize a1.tmps[51]?.getD undef = y51 at hT
  generalize a1.tmps[52]?.getD undef = y52 at hT
  generalize a1.tmps[53]?.getD undef = y53 at hT
  generalize a1.tmps[54]?.getD undef = y54 at hT
  generalize a1.tmps[55]?.getD undef = y55 at hT
  generalize a1.tmps[56]?.getD undef = y56 at hT
  generalize a1.tmps[57]?.getD undef = y57 at hT
  generalize a1.tmps[58]?.getD undef = y58 at hT
  generalize a1.tmps[59]?.getD undef = y59 at hT
  generalize a1.tmps[60]?.getD undef = y60 at hT
  generalize a1.tmps[61]?.getD undef = y61 at hT
  generalize a1.tmps[62]?.getD undef = y62 at hT
  generalize a1.tmps[63]?.getD undef = y63 at hT
  generalize a1.tmps[64]?.getD undef = y64 at hT
  generalize a1.tmps[65]?.getD undef = y65 at hT
  generalize a1.tmps[66]?.getD undef = y66 at hT
  generalize a1.tmps[67]?.getD undef = y67 at hT
  generalize a1.tmps[68]?.getD undef = y68 at hT
  generalize a1.tmps[69]?.getD undef = y69 at hT
  generalize a1.tmps[70]?.getD undef = y70 at hT
  generalize a1.tmps[71]?.getD undef = y71 at hT
  generalize a1.tmps[72]?.getD undef = y72 at hT
  generalize a1.tmps[73]?.getD undef = y73 at hT
  generalize a1.tmps[74]?.getD undef = y74 at hT
  generalize a1.tmps[75]?.getD undef = y75 at hT
  generalize a1.tmps[76]?.getD undef = y76 at hT
  generalize a1.tmps[77]?.getD undef = y77 at hT
  generalize a1.tmps[78]?.getD undef = y78 at hT
  generalize a1.tmps[79]?.getD undef = y79 at hT
  generalize a1.tmps[80]?.getD undef = y80 at hT
  generalize a1.tmps[81]?.getD undef = y81 at hT
  generalize a1.tmps[82]?.getD undef = y82 at hT
  generalize a1.tmps[83]?.getD undef = y83 at hT
  generalize a1.tmps[84]?.getD undef = y84 at hT
  generalize a1.tmps[85]?.getD undef = y85 at hT
  generalize a1.tmps[86]?.getD undef = y86 at hT
  generalize a1.tmps[87]?.getD undef = y87 at hT
  generalize a1.tmps[88]?.getD undef = y88 at hT
  generalize a1.tmps[89]?.getD undef = y89 at hT
  generalize a1.tmps[90]?.getD undef = y90 at hT
  generalize a1.tmps[91]?.getD undef = y91 at hT
  generalize a1.tmps[92]?.getD undef = y92 at hT
  generalize a1.tmps[93]?.getD undef = y93 at hT
  generalize a1.tmps[94]?.getD undef = y94 at hT
  generalize a1.tmps[95]?.getD undef = y95 at hT
  generalize a1.tmps[96]?.getD undef = y96 at hT
  generalize a1.tmps[97]?.getD undef = y97 at hT
  generalize a1.tmps[98]?.getD undef = y98 at hT
  generalize a1.tmps[99]?.getD undef = y99 at hT
  generalize a1.tmps[100]?.getD undef = y100 at hT
  generalize a1.tmps[101]?.getD undef = y101 at hT
  generalize a1.tmps[102]?.getD undef = y102 at hT
  generalize a1.tmps[103]?.getD undef = y103 at hT
  generalize a1.tmps[104]?.getD undef = y104 at hT
  generalize a1.tmps[105]?.getD undef = y105 at hT
  generalize a1.tmps[106]?.getD undef = y106 at hT
  generalize a1.tmps[107]?.getD undef = y107 at hT
  generalize a1.tmps[108]?.getD undef = y108 at hT
  generalize a1.tmps[109]?.getD undef = y109 at hT
  generalize a1.tmps[110]?.getD undef = y110 at hT
  generalize a1.tmps[111]?.getD undef = y111 at hT
  generalize a1.tmps[112]?.getD undef = y112 at hT
  obtain ⟨T, D⟩ := a1
  obtain rfl : D = [] := hdf
  obtain rfl : T = _ := hT

  have HX12 := Lib.hid (show Bx1 w.heap.size v1 W2 (.pointer (some ⟨g12, 0, none⟩)) from ⟨g12, A12, c12, rfl, Nat.le_trans hbw1.size hg12, BX12, RX12, HX12⟩)
  dsimp only
  have hbw2 := hbw1.trans (hbW2.mono hbw1.size)
  have HBA := Lib.hid (HBA.out.below hbW2 HBA.out.lt)
  have HBB := Lib.hid (HBB.out.below hbW2 HBB.out.lt)
  have HBS := Lib.hid (HBS.out.below hbW2 HBS.out.lt)
  clear BX12 RX12
  go_upto_region 5 with (fail)
  refine wp_region_inv (by kernel_rfl) (fun w' => Below W2.heap.size W2 w') (fun st t x w' => Rb a b (.agg #[.slice AC S.cells.length cc, .slice AN S.loops.length cn, .slice AB S.bounds.length cb, .slice AR S.rows.length cr]) A R n c m c9 W2.heap.size f2 v2 w.heap.size st t x w') 19 (by kernel_rfl) ((Below.refl _ _).drew) ?_ ?_
  · intro i o listed a1 w1 h ho hl hd K hK
    have hi : i < 21 := (Array.getElem?_eq_some_iff.1 ho).1
    have hB := h.hc
    obtain rfl | rfl | rfl | rfl | rfl | rfl | rfl | rfl | rfl | rfl | rfl | rfl | rfl | rfl | rfl | rfl | rfl | rfl | rfl | rfl | rfl : i = 0 ∨ i = 1 ∨ i = 2 ∨ i = 3 ∨ i = 4 ∨ i = 5 ∨ i = 6 ∨ i = 7 ∨ i = 8 ∨ i = 9 ∨ i = 10 ∨ i = 11 ∨ i = 12 ∨ i = 13 ∨ i = 14 ∨ i = 15 ∨ i = 16 ∨ i = 17 ∨ i = 18 ∨ i = 19 ∨ i = 20 := by omega
    · cases ho
      have o11 : a1.tmps[11]?.getD undef = .func (.func 7) #[] #[] := h.keep_ 11 (by kernel_rfl)
      refine wp_val (w' := w1) (v := .func (.func 7) #[] #[]) (by simp [execOp, Act.eval, go_sem, o11]) ?_
      exact hK _ _ (h.put (by kernel_rfl) rfl hd rfl hB (fun _ _ hx => hx) rfl)
    · cases ho
      have o11 : a1.tmps[11]?.getD undef = .func (.func 7) #[] #[] := h.keep_ 11 (by kernel_rfl)
      refine wp_val (w' := w1) (v := .func (.func 7) #[] #[]) (by simp [execOp, Act.eval, go_sem, o11]) ?_
      exact hK _ _ (h.put (by kernel_rfl) rfl hd rfl hB (fun _ _ hx => hx) rfl)
    · cases ho
      have o5 : a1.tmps[5]?.getD undef = .pointer (some ⟨w.heap.size, 0, none⟩) := h.keep_ 5 (by kernel_rfl)
      have hq := HBA.out.below hB HBA.out.lt
      have q0 : w1.cell? ⟨w.heap.size, 0, none⟩ = _ := hq.cell 0
      have q1 : w1.cell? ⟨w.heap.size, 1, none⟩ = _ := hq.cell 1
      have q2 : w1.cell? ⟨w.heap.size, 2, none⟩ = _ := hq.cell 2
      have q3 : w1.cell? ⟨w.heap.size, 3, none⟩ = _ := hq.cell 3
      have q4 : w1.cell? ⟨w.heap.size, 4, none⟩ = _ := hq.cell 4
      have q5 : w1.cell? ⟨w.heap.size, 5, none⟩ = _ := hq.cell 5
      have q6 : w1.cell? ⟨w.heap.size, 6, none⟩ = _ := hq.cell 6
      have q7 : w1.cell? ⟨w.heap.size, 7, none⟩ = _ := hq.cell 7
      simp only [List.getElem?_toArray, exCells, List.getElem?_cons_zero, List.getElem?_cons_succ] at q0 q1 q2 q3 q4 q5 q6 q7
      refine wp_val (w' := w1) (v := .agg #[.int .i64 a.k, .int .i64 a.op, .string a.nm, .int .i64 a.v.k, .int .i64 a.v.n, .string a.v.s, .slice Aa a.v.l.length ca, .slice Aa' a.ar.length ca']) (by simp [execOp, Act.eval, go_sem, o5, q0, q1, q2, q3, q4, q5, q6, q7]) ?_
      exact hK _ _ (h.put (by kernel_rfl) rfl hd rfl hB (fun _ _ hx => hx) (fun _ => ⟨_, _, _, _, rfl, (HXA.out _ (hbw2.trans (hB.mono hbw2.size)))⟩))
    · cases ho
      have hst := h.notyet 3 [4, 9, 10, 14, 15, 16, 19] hl (by kernel_rfl) rfl
      obtain ⟨x40, e40, r40⟩ := h.at_ 2 rfl (dep_listed hd 2 (by kernel_rfl)) rfl
      obtain ⟨A1, c1, A2, c2, rfl, hx⟩ := r40 hst
      refine wp_val (w' := w1.alloc (.cells #[.int .i64 a.k, .int .i64 a.op, .string a.nm, .int .i64 a.v.k, .int .i64 a.v.n, .string a.v.s, .slice A1 a.v.l.length c1, .slice A2 a.ar.length c2] 27 (0, 0))) (v := .slice (some ⟨w1.heap.size, 0, none⟩) 1 1) (by simp [execOp, Act.eval, go_sem, e40]) ?_
      have hbs := below_a w1 (.cells #[.int .i64 a.k, .int .i64 a.op, .string a.nm, .int .i64 a.v.k, .int .i64 a.v.n, .string a.v.s, .slice A1 a.v.l.length c1, .slice A2 a.ar.length c2] 27 (0, 0))
      exact hK _ _ (h.put (by kernel_rfl) rfl hd rfl (hB.trans (hbs.mono hB.size)) (fun _ _ hx => Rb_later hbs hx) (fun _ => ⟨_, _, _, _, _, rfl, Blk.new w1 _ _, hx.later hbs⟩))
    · cases ho
      have hst := h.notyet 4 [9, 10, 14, 15, 16, 19] hl (by kernel_rfl) rfl
      obtain ⟨x39, e39, r39⟩ := h.at_ 1 rfl (dep_listed hd 1 (by kernel_rfl)) rfl
      obtain ⟨x41, e41, r41⟩ := h.at_ 3 rfl (dep_listed hd 3 (by kernel_rfl)) rfl
      have r39 : x39 = .func (.func 7) #[] #[] := r39
      subst r39
      obtain ⟨g1, A1, c1, A2, c2, rfl, hb1, hx⟩ := r41 hst
      refine wp_in (w' := w1) (f := 7) (args := #[.int .i64 1, .slice (some ⟨g1, 0, none⟩) 1 1]) (by simp [execOp, Act.eval, go_sem, e39, e41]) ?_
      refine (built_any 1 (some ⟨g1, 0, none⟩) 1 1 w1).mono ?_
      rintro en w2 ⟨rfl, hbs⟩
      exact ⟨_, rfl, hK _ _ (h.put (by kernel_rfl) rfl hd rfl (hB.trans (hbs.mono hB.size)) (fun _ _ hx => Rb_later hbs hx) (fun _ => ⟨none, 0, some ⟨g1, 0, none⟩, 1, rfl, ExAt.op1 (hx.later hbs) (hb1.below hbs hb1.lt) (Nat.lt_of_lt_of_le hb1.lt hbs.size)⟩))⟩
    · cases ho
      have o11 : a1.tmps[11]?.getD undef = .func (.func 7) #[] #[] := h.keep_ 11 (by kernel_rfl)
      refine wp_val (w' := w1) (v := .func (.func 7) #[] #[]) (by simp [execOp, Act.eval, go_sem, o11]) ?_
      exact hK _ _ (h.put (by kernel_rfl) rfl hd rfl hB (fun _ _ hx => hx) rfl)
    · cases ho
      have o6 : a1.tmps[6]?.getD undef = .pointer (some ⟨w.heap.size + 1, 0, none⟩) := h.keep_ 6 (by kernel_rfl)
      have hq := HBB.out.below hB HBB.out.lt
      have q0 : w1.cell? ⟨w.heap.size + 1, 0, none⟩ = _ := hq.cell 0
      have q1 : w1.cell? ⟨w.heap.size + 1, 1, none⟩ = _ := hq.cell 1
      have q2 : w1.cell? ⟨w.heap.size + 1, 2, none⟩ = _ := hq.cell 2
      have q3 : w1.cell? ⟨w.heap.size + 1, 3, none⟩ = _ := hq.cell 3
      have q4 : w1.cell? ⟨w.heap.size + 1, 4, none⟩ = _ := hq.cell 4
      have q5 : w1.cell? ⟨w.heap.size + 1, 5, none⟩ = _ := hq.cell 5
      have q6 : w1.cell? ⟨w.heap.size + 1, 6, none⟩ = _ := hq.cell 6
      have q7 : w1.cell? ⟨w.heap.size + 1, 7, none⟩ = _ := hq.cell 7
      simp only [List.getElem?_toArray, exCells, List.getElem?_cons_zero, List.getElem?_cons_succ] at q0 q1 q2 q3 q4 q5 q6 q7
      refine wp_val (w' := w1) (v := .agg #[.int .i64 b.k, .int .i64 b.op, .string b.nm, .int .i64 b.v.k, .int .i64 b.v.n, .string b.v.s, .slice Ab b.v.l.length cb', .slice Ab' b.ar.length cb'']) (by simp [execOp, Act.eval, go_sem, o6, q0, q1, q2, q3, q4, q5, q6, q7]) ?_
      exact hK _ _ (h.put (by kernel_rfl) rfl hd rfl hB (fun _ _ hx => hx) (fun _ => ⟨_, _, _, _, rfl, (HXB.out _ (hbw2.trans (hB.mono hbw2.size)))⟩))
    · cases ho
      have hst := h.notyet 7 [8, 9, 10, 14, 15, 16, 19] hl (by kernel_rfl) rfl
      obtain ⟨x44, e44, r44⟩ := h.at_ 6 rfl (dep_listed hd 6 (by kernel_rfl)) rfl
      obtain ⟨A1, c1, A2, c2, rfl, hx⟩ := r44 hst
      refine wp_val (w' := w1.alloc (.cells #[.int .i64 b.k, .int .i64 b.op, .string b.nm, .int .i64 b.v.k, .int .i64 b.v.n, .string b.v.s, .slice A1 b.v.l.length c1, .slice A2 b.ar.length c2] 27 (0, 0))) (v := .slice (some ⟨w1.heap.size, 0, none⟩) 1 1) (by simp [execOp, Act.eval, go_sem, e44]) ?_
      have hbs := below_a w1 (.cells #[.int .i64 b.k, .int .i64 b.op, .string b.nm, .int .i64 b.v.k, .int .i64 b.v.n, .string b.v.s, .slice A1 b.v.l.length c1, .slice A2 b.ar.length c2] 27 (0, 0))
      exact hK _ _ (h.put (by kernel_rfl) rfl hd rfl (hB.trans (hbs.mono hB.size)) (fun _ _ hx => Rb_later hbs hx) (fun _ => ⟨_, _, _, _, _, rfl, Blk.new w1 _ _, hx.later hbs⟩))
    · cases ho
      have hst := h.notyet 8 [9, 10, 14, 15, 16, 19] hl (by kernel_rfl) rfl
      obtain ⟨x43, e43, r43⟩ := h.at_ 5 rfl (dep_listed hd 5 (by kernel_rfl)) rfl
      obtain ⟨x45, e45, r45⟩ := h.at_ 7 rfl (dep_listed hd 7 (by kernel_rfl)) rfl
      have r43 : x43 = .func (.func 7) #[] #[] := r43
      subst r43
      obtain ⟨g1, A1, c1, A2, c2, rfl, hb1, hx⟩ := r45 hst
      refine wp_in (w' := w1) (f := 7) (args := #[.int .i64 1, .slice (some ⟨g1, 0, none⟩) 1 1]) (by simp [execOp, Act.eval, go_sem, e43, e45]) ?_
      refine (built_any 1 (some ⟨g1, 0, none⟩) 1 1 w1).mono ?_
      rintro en w2 ⟨rfl, hbs⟩
      exact ⟨_, rfl, hK _ _ (h.put (by kernel_rfl) rfl hd rfl (hB.trans (hbs.mono hB.size)) (fun _ _ hx => Rb_later hbs hx) (fun _ => ⟨none, 0, some ⟨g1, 0, none⟩, 1, rfl, ExAt.op1 (hx.later hbs) (hb1.below hbs hb1.lt) (Nat.lt_of_lt_of_le hb1.lt hbs.size)⟩))⟩
    · cases ho
      have hst := h.notyet 9 [10, 14, 15, 16, 19] hl (by kernel_rfl) rfl
      obtain ⟨x42, e42, r42⟩ := h.at_ 4 rfl (dep_listed hd 4 (by kernel_rfl)) rfl
      obtain ⟨x46, e46, r46⟩ := h.at_ 8 rfl (dep_listed hd 8 (by kernel_rfl)) rfl
      obtain ⟨A1, c1, A2, c2, rfl, hx⟩ := r42 hst
      obtain ⟨A3, c3, A4, c4, rfl, hy⟩ := r46 hst
      refine wp_val (w' := w1.alloc (.cells #[.int .i64 (opE 1 [a]).k, .int .i64 (opE 1 [a]).op, .string (opE 1 [a]).nm, .int .i64 (opE 1 [a]).v.k, .int .i64 (opE 1 [a]).v.n, .string (opE 1 [a]).v.s, .slice A1 (opE 1 [a]).v.l.length c1, .slice A2 (opE 1 [a]).ar.length c2, .int .i64 (opE 1 [b]).k, .int .i64 (opE 1 [b]).op, .string (opE 1 [b]).nm, .int .i64 (opE 1 [b]).v.k, .int .i64 (opE 1 [b]).v.n, .string (opE 1 [b]).v.s, .slice A3 (opE 1 [b]).v.l.length c3, .slice A4 (opE 1 [b]).ar.length c4] 27 (0, 0))) (v := .slice (some ⟨w1.heap.size, 0, none⟩) 2 2) (by simp [execOp, Act.eval, go_sem, e42, e46]) ?_
      have hbs := below_a w1 (.cells #[.int .i64 (opE 1 [a]).k, .int .i64 (opE 1 [a]).op, .string (opE 1 [a]).nm, .int .i64 (opE 1 [a]).v.k, .int .i64 (opE 1 [a]).v.n, .string (opE 1 [a]).v.s, .slice A1 (opE 1 [a]).v.l.length c1, .slice A2 (opE 1 [a]).ar.length c2, .int .i64 (opE 1 [b]).k, .int .i64 (opE 1 [b]).op, .string (opE 1 [b]).nm, .int .i64 (opE 1 [b]).v.k, .int .i64 (opE 1 [b]).v.n, .string (opE 1 [b]).v.s, .slice A3 (opE 1 [b]).v.l.length c3, .slice A4 (opE 1 [b]).ar.length c4] 27 (0, 0))
      exact hK _ _ (h.put (by kernel_rfl) rfl hd rfl (hB.trans (hbs.mono hB.size)) (fun _ _ hx => Rb_later hbs hx) (fun _ => ⟨_, _, _, _, _, _, _, _, _, rfl, Blk.new w1 _ _, hx.later hbs, hy.later hbs⟩))
    · cases ho
      have hst := h.notyet 10 [14, 15, 16, 19] hl (by kernel_rfl) rfl
      obtain ⟨x38, e38, r38⟩ := h.at_ 0 rfl (dep_listed hd 0 (by kernel_rfl)) rfl
      obtain ⟨x47, e47, r47⟩ := h.at_ 9 rfl (dep_listed hd 9 (by kernel_rfl)) rfl
      have r38 : x38 = .func (.func 7) #[] #[] := r38
      subst r38
      obtain ⟨g1, A1, c1, A2, c2, A3, c3, A4, c4, rfl, hb1, hx, hy⟩ := r47 hst
      refine wp_in (w' := w1) (f := 7) (args := #[.int .i64 3, .slice (some ⟨g1, 0, none⟩) 2 2]) (by simp [execOp, Act.eval, go_sem, e38, e47]) ?_
      refine (built_any 3 (some ⟨g1, 0, none⟩) 2 2 w1).mono ?_
      rintro en w2 ⟨rfl, hbs⟩
      exact ⟨_, rfl, hK _ _ (h.put (by kernel_rfl) rfl hd rfl (hB.trans (hbs.mono hB.size)) (fun _ _ hx => Rb_later hbs hx) (fun _ => ⟨none, 0, some ⟨g1, 0, none⟩, 2, rfl, ExAt.op2 (hx.later hbs) (hy.later hbs) (hb1.below hbs hb1.lt) (Nat.lt_of_lt_of_le hb1.lt hbs.size)⟩))⟩
    · cases ho
      have o7 : a1.tmps[7]?.getD undef = .pointer (some ⟨w.heap.size + 2, 0, none⟩) := h.keep_ 7 (by kernel_rfl)
      have hq := HBS.out.below hB HBS.out.lt
      have q0 : w1.cell? ⟨w.heap.size + 2, 0, none⟩ = some (.slice AC S.cells.length cc) := hq.cell 0
      have q1 : w1.cell? ⟨w.heap.size + 2, 1, none⟩ = some (.slice AN S.loops.length cn) := hq.cell 1
      have q2 : w1.cell? ⟨w.heap.size + 2, 2, none⟩ = some (.slice AB S.bounds.length cb) := hq.cell 2
      have q3 : w1.cell? ⟨w.heap.size + 2, 3, none⟩ = some (.slice AR S.rows.length cr) := hq.cell 3
      refine wp_val (w' := w1) (v := .agg #[.slice AC S.cells.length cc, .slice AN S.loops.length cn, .slice AB S.bounds.length cb, .slice AR S.rows.length cr]) (by simp [execOp, Act.eval, go_sem, o7, q0, q1, q2, q3]) ?_
      exact hK _ _ (h.put (by kernel_rfl) rfl hd rfl hB (fun _ _ hx => hx) rfl)
    · cases ho
      have o3 : a1.tmps[3]?.getD undef = .slice A n c := h.keep_ 3 (by kernel_rfl)
      refine wp_val (w' := w1) (v := .slice A n c) (by simp [execOp, Act.eval, go_sem, o3]) ?_
      exact hK _ _ (h.put (by kernel_rfl) rfl hd rfl hB (fun _ _ hx => hx) rfl)
    · cases ho
      have o4 : a1.tmps[4]?.getD undef = .slice R m c9 := h.keep_ 4 (by kernel_rfl)
      refine wp_val (w' := w1) (v := .slice R m c9) (by simp [execOp, Act.eval, go_sem, o4]) ?_
      exact hK _ _ (h.put (by kernel_rfl) rfl hd rfl hB (fun _ _ hx => hx) rfl)
    · cases ho
      have hst := h.notyet 14 [15, 16, 19] hl (by kernel_rfl) rfl
      obtain ⟨x48, e48, r48⟩ := h.at_ 10 rfl (dep_listed hd 10 (by kernel_rfl)) rfl
      obtain ⟨x49, e49, r49⟩ := h.at_ 11 rfl (dep_listed hd 11 (by kernel_rfl)) rfl
      obtain ⟨x50, e50, r50⟩ := h.at_ 12 rfl (dep_listed hd 12 (by kernel_rfl)) rfl
      obtain ⟨x51, e51, r51⟩ := h.at_ 13 rfl (dep_listed hd 13 (by kernel_rfl)) rfl
      have r49 : x49 = .agg #[.slice AC S.cells.length cc, .slice AN S.loops.length cn, .slice AB S.bounds.length cb, .slice AR S.rows.length cr] := r49
      have r50 : x50 = .slice A n c := r50
      have r51 : x51 = .slice R m c9 := r51
      subst r49 r50 r51
      obtain ⟨A1, c1, A2, c2, rfl, hx⟩ := r48 hst
      refine wp_in (w' := w1) (f := 8) (args := #[.agg #[.int .i64 (eR a b).k, .int .i64 (eR a b).op, .string (eR a b).nm, .int .i64 (eR a b).v.k, .int .i64 (eR a b).v.n, .string (eR a b).v.s, .slice A1 (eR a b).v.l.length c1, .slice A2 (eR a b).ar.length c2], .agg #[.slice AC S.cells.length cc, .slice AN S.loops.length cn, .slice AB S.bounds.length cb, .slice AR S.rows.length cr], .slice A n c, .slice R m c9]) (by simp [execOp, Act.eval, go_sem, e48, e49, e50, e51]) ?_
      refine (HER.out _ w1 (hbw2.trans (hB.mono hbw2.size)) hx).mono ?_
      rintro en w2 ⟨⟨r, rfl, hr⟩, hbs⟩
      exact ⟨_, rfl, hK _ _ (h.put (by kernel_rfl) rfl hd rfl (hB.trans (hbs.mono hB.size)) (fun _ _ hx => Rb_later hbs hx) ⟨r, rfl, fun _ => hr.base hB.size⟩)⟩
    · cases ho
      obtain ⟨x52, e52, r52⟩ := h.at_ 14 rfl (dep_listed hd 14 (by kernel_rfl)) rfl
      refine wp_val (w' := w1) (v := x52) (by simp [execOp, Act.eval, go_sem, e52]) ?_
      exact hK _ _ (h.put (by kernel_rfl) rfl hd rfl hB (fun _ _ hx => hx) r52)
    · cases ho
      obtain ⟨x37, e37, r37⟩ := h.at_ 15 rfl (dep_listed hd 15 (by kernel_rfl)) rfl
      obtain ⟨r, rfl, hr⟩ := r37
      refine wp_val (w' := w1) (v := r) (by simp [execOp, Act.eval, go_sem, e37]) ?_
      exact hK _ _ (h.put (by kernel_rfl) rfl hd rfl hB (fun _ _ hx => hx) hr)
    · cases ho
      obtain ⟨x37, e37, r37⟩ := h.at_ 15 rfl (dep_listed hd 15 (by kernel_rfl)) rfl
      obtain ⟨r, rfl, hr⟩ := r37
      refine wp_val (w' := w1) (v := .int .i64 f2) (by simp [execOp, Act.eval, go_sem, e37]) ?_
      exact hK _ _ (h.put (by kernel_rfl) rfl hd rfl hB (fun _ _ hx => hx) rfl)
    · cases ho
      have hst := h.notyet 18 [19] hl (by kernel_rfl) rfl
      refine wp_val (w' := w1.alloc (.cells #[.int .i64 0, .int .i64 0, .string ⟨#[]⟩, .slice none 0 0] 24 (0, 0))) (v := .pointer (some ⟨w1.heap.size, 0, none⟩)) (by simp [execOp, go_sem]) ?_
      have hbs := below_a w1 (.cells #[.int .i64 0, .int .i64 0, .string ⟨#[]⟩, .slice none 0 0] 24 (0, 0))
      exact hK _ _ (h.put (by kernel_rfl) rfl hd rfl (hB.trans (hbs.mono hB.size)) (fun _ _ hx => Rb_later hbs hx) ⟨fun _ => ⟨_, rfl, hB.size, Blk.new w1 _ _⟩, fun hs => absurd (hst.symm.trans hs) (by decide)⟩)
    · cases ho
      have hst := h.notyet 19 [] hl (by kernel_rfl) rfl
      obtain ⟨x14, e14, r14⟩ := h.at_ 18 rfl (dep_listed hd 18 (by kernel_rfl)) rfl
      obtain ⟨x53, e53, r53⟩ := h.at_ 16 rfl (dep_listed hd 16 (by kernel_rfl)) rfl
      obtain ⟨g1, rfl, hg1, hb1⟩ := r14.1 hst
      obtain ⟨A1, c1, rfl, ho1, hs1⟩ := r53 hst
      obtain ⟨W2, hW2, hbx, hbs⟩ := Bx1.stored hg1 hb1 ho1 hs1
      obtain ⟨y0, z0, y1, z1, y2, z2, y3, z3⟩ := Blk.z4 hb1
      refine wp_skip (w' := W2) (by rw [hW2]; simp [execOp, Act.eval, go_sem, e14, e53, y0, y1, y2, y3, z0, z1, z2, z3]) ?_
      refine hK _ _ (h.store rfl hd rfl (hB.trans hbs) fun i' o' t' ho' hl' ht' x' hx' hr' => ?_)
      refine Rb_stored (fun e => ?_) hr'
      subst e
      have : x' = .pointer (some ⟨g1, 0, none⟩) := by
        rw [hx'] at e14
        exact e14
      rw [this]
      exact hbx
    · cases ho
      obtain ⟨x54, e54, r54⟩ := h.at_ 17 rfl (dep_listed hd 17 (by kernel_rfl)) rfl
      have r54 : x54 = .int .i64 f2 := r54
      subst r54
      refine wp_val (w' := w1) (v := .int .i64 f2) (by simp [execOp, Act.eval, go_sem, e54]) ?_
      exact hK _ _ (h.put (by kernel_rfl) rfl hd rfl hB (fun _ _ hx => hx) rfl)
  intro listed a1 W3 h hall
  have hsz := h.tsize
  have hdf := h.defers
  have hbW3 : Below W2.heap.size W2 W3 := h.hc
  obtain ⟨x12, e12, r12⟩ := h.at_ 18 rfl (hall 18 (by decide)) rfl
  obtain ⟨x13, e13, r13⟩ := h.at_ 20 rfl (hall 20 (by decide)) rfl
  have hst : listed.getD 19 false = true := hall 19 (by decide)
  obtain ⟨g14, A14, c14, rfl, hg14, BX14, RX14, HX14⟩ := r12.2 hst
  have r13 : x13 = .int .i64 f2 := r13
  subst r13
  have o3 : a1.tmps[3]?.getD undef = .slice A n c := h.keep_ 3 (by kernel_rfl)
  have o4 : a1.tmps[4]?.getD undef = .slice R m c9 := h.keep_ 4 (by kernel_rfl)
  have o5 : a1.tmps[5]?.getD undef = .pointer (some ⟨w.heap.size, 0, none⟩) := h.keep_ 5 (by kernel_rfl)
  have o6 : a1.tmps[6]?.getD undef = .pointer (some ⟨w.heap.size + 1, 0, none⟩) := h.keep_ 6 (by kernel_rfl)
  have o7 : a1.tmps[7]?.getD undef = .pointer (some ⟨w.heap.size + 2, 0, none⟩) := h.keep_ 7 (by kernel_rfl)
  have o11 : a1.tmps[11]?.getD undef = .func (.func 7) #[] #[] := h.keep_ 11 (by kernel_rfl)
  have o12 : a1.tmps[12]?.getD undef = .pointer (some ⟨g12, 0, none⟩) := h.keep_ 12 (by kernel_rfl)
  have o13 : a1.tmps[13]?.getD undef = .int .i64 f1 := h.keep_ 13 (by kernel_rfl)
  have hT := slots_eq a1.tmps 113 hsz
  rw [show ((List.range 113).map (fun i => a1.tmps[i]?.getD undef)).toArray = #[a1.tmps[0]?.getD undef, a1.tmps[1]?.getD undef, a1.tmps[2]?.getD undef, a1.tmps[3]?.getD undef, a1.tmps[4]?.getD undef, a1.tmps[5]?.getD undef, a1.tmps[6]?.getD undef, a1.tmps[7]?.getD undef, a1.tmps[8]?.getD undef, a1.tmps[9]?.getD undef, a1.tmps[10]?.getD undef, a1.tmps[11]?.getD undef, a1.tmps[12]?.getD undef, a1.tmps[13]?.getD undef, a1.tmps[14]?.getD undef, a1.tmps[15]?.getD undef, a1.tmps[16]?.getD undef, a1.tmps[17]?.getD undef, a1.tmps[18]?.getD undef, a1.tmps[19]?.getD undef, a1.tmps[20]?.getD undef, a1.tmps[21]?.getD undef, a1.tmps[22]?.getD undef, a1.tmps[23]?.getD undef, a1.tmps[24]?.getD undef, a1.tmps[25]?.getD undef, a1.tmps[26]?.getD undef, a1.tmps[27]?.getD undef, a1.tmps[28]?.getD undef, a1.tmps[29]?.getD undef, a1.tmps[30]?.getD undef, a1.tmps[31]?.getD undef, a1.tmps[32]?.getD undef, a1.tmps[33]?.getD undef, a1.tmps[34]?.getD undef, a1.tmps[35]?.getD undef, a1.tmps[36]?.getD undef, a1.tmps[37]?.getD undef, a1.tmps[38]?.getD undef, a1.tmps[39]?.getD undef, a1.tmps[40]?.getD undef, a1.tmps[41]?.getD undef, a1.tmps[42]?.getD undef, a1.tmps[43]?.getD undef, a1.tmps[44]?.getD undef, a1.tmps[45]?.getD undef, a1.tmps[46]?.getD undef, a1.tmps[47]?.getD undef, a1.tmps[48]?.getD undef, a1.tmps[49]?.getD undef, a1.tmps[50]?.getD undef, a1.tmps[51]?.getD undef, a1.tmps[52]?.getD undef, a1.tmps[53]?.getD undef, a1.tmps[54]?.getD undef, a1.tmps[55]?.getD undef, a1.tmps[56]?.getD undef, a1.tmps[57]?.getD undef, a1.tmps[58]?.getD undef, a1.tmps[59]?.getD undef, a1.tmps[60]?.getD undef, a1.tmps[61]?.getD undef, a1.tmps[62]?.getD undef, a1.tmps[63]?.getD undef, a1.tmps[64]?.getD undef, a1.tmps[65]?.getD undef, a1.tmps[66]?.getD undef, a1.tmps[67]?.getD undef, a1.tmps[68]?.getD undef, a1.tmps[69]?.getD undef, a1.tmps[70]?.getD undef, a1.tmps[71]?.getD undef, a1.tmps[72]?.getD undef, a1.tmps[73]?.getD undef, a1.tmps[74]?.getD undef, a1.tmps[75]?.getD undef, a1.tmps[76]?.getD undef, a1.tmps[77]?.getD undef, a1.tmps[78]?.getD undef, a1.tmps[79]?.getD undef, a1.tmps[80]?.getD undef, a1.tmps[81]?.getD undef, a1.tmps[82]?.getD undef, a1.tmps[83]?.getD undef, a1.tmps[84]?.getD undef, a1.tmps[85]?.getD undef, a1.tmps[86]?.getD undef, a1.tmps[87]?.getD undef, a1.tmps[88]?.getD undef, a1.tmps[89]?.getD undef, a1.tmps[90]?.getD undef, a1.tmps[91]?.getD undef, a1.tmps[92]?.getD undef, a1.tmps[93]?.getD undef, a1.tmps[94]?.getD undef, a1.tmps[95]?.getD undef, a1.tmps[96]?.getD undef, a1.tmps[97]?.getD undef, a1.tmps[98]?.getD undef, a1.tmps[99]?.getD undef, a1.tmps[100]?.getD undef, a1.tmps[101]?.getD undef, a1.tmps[102]?.getD undef, a1.tmps[103]?.getD undef, a1.tmps[104]?.getD undef, a1.tmps[105]?.getD undef, a1.tmps[106]?.getD undef, a1.tmps[107]?.getD undef, a1.tmps[108]?.getD undef, a1.tmps[109]?.getD undef, a1.tmps[110]?.getD undef, a1.tmps[111]?.getD undef, a1.tmps[112]?.getD undef] from rfl] at hT
  rw [e12, e13, o3, o4, o5, o6, o7, o11, o12, o13] at hT
  clear h hall hst e12 e13 r12 o3 o4 o5 o6 o7 o11 o12 o13 hsz
  generalize a1.tmps[0]?.getD undef = y0 at hT
  generalize a1.tmps[1]?.getD undef = y1 at hT
  generalize a1.tmps[2]?.getD undef = y2 at hT
  generalize a1.tmps[8]?.getD undef = y8 at hT
  generalize a1.tmps[9]?.getD undef = y9 at hT
  generalize a1.tmps[10]?.getD undef = y10 at hT
  generalize a1.tmps[16]?.getD undef = y16 at hT
  generalize a1.tmps[17]?.getD undef = y17 at hT
  generalize a1.tmps[18]?.getD undef = y18 at hT
  generalize a1.tmps[19]?.getD undef = y19 at hT
  generalize a1.tmps[20]?.getD undef = y20 at hT
  generalize a1.tmps[21]?.getD undef = y21 at hT
  generalize a1.tmps[22]?.getD undef = y22 at hT
  generalize a1.tmps[23]?.getD undef = y23 at hT
  generalize a1.tmps[24]?.getD undef = y24 at hT
  generalize a1.tmps[25]?.getD undef = y25 at hT
  generalize a1.tmps[26]?.getD undef = y26 at hT
  generalize a1.tmps[27]?.getD undef = y27 at hT
  generalize a1.tmps[28]?.getD undef = y28 at hT
  generalize a1.tmps[29]?.getD undef = y29 at hT
  generalize a1.tmps[30]?.getD undef = y30 at hT
  generalize a1.tmps[31]?.getD undef = y31 at hT
  generalize a1.tmps[32]?.getD undef = y32 at hT
  generalize a1.tmps[33]?.getD undef = y33 at hT
  generalize a1.tmps[34]?.getD undef = y34 at hT
  generalize a1.tmps[35]?.getD undef = y35 at hT
  generalize a1.tmps[36]?.getD undef = y36 at hT
  generalize a1.tmps[37]?.getD undef = y37 at hT
  generalize a1.tmps[38]?.getD undef = y38 at hT
  generalize a1.tmps[39]?.getD undef = y39 at hT
  generalize a1.tmps[40]?.getD undef = y40 at hT
  generalize a1.tmps[41]?.getD undef = y41 at hT
  generalize a1.tmps[42]?.getD undef = y42 at hT
  generalize a1.tmps[43]?.getD undef = y43 at hT
  generalize a1.tmps[44]?.getD undef = y44 at hT
  generalize a1.tmps[45]?.getD undef = y45 at hT
  generalize a1.tmps[46]?.getD undef = y46 at hT
  generalize a1.tmps[47]?.getD undef = y47 at hT
  generalize a1.tmps[48]?.getD undef = y48 at hT
  generalize a1.tmps[49]?.getD undef = y49 at hT
  generalize a1.tmps[50]?.getD undef = y50 at hT
  generalize a1.tmps[51]?.getD undef = y51 at hT
  generalize a1.tmps[52]?.getD undef = y52 at hT
  generalize a1.tmps[53]?.getD undef = y53 at hT
  generalize a1.tmps[54]?.getD undef = y54 at hT
  generalize a1.tmps[55]?.getD undef = y55 at hT
  generalize a1.tmps[56]?.getD undef = y56 at hT
  generalize a1.tmps[57]?.getD undef = y57 at hT
  generalize a1.tmps[58]?.getD undef = y58 at hT
  generalize a1.tmps[59]?.getD undef = y59 at hT
  generalize a1.tmps[60]?.getD undef = y60 at hT
  generalize a1.tmps[61]?.getD undef = y61 at hT
  generalize a1.tmps[62]?.getD undef = y62 at hT
  generalize a1.tmps[63]?.getD undef = y63 at hT
  generalize a1.tmps[64]?.getD undef = y64 at hT
  generalize a1.tmps[65]?.getD undef = y65 at hT
  generalize a1.tmps[66]?.getD undef = y66 at hT
  generalize a1.tmps[67]?.getD undef = y67 at hT
  generalize a1.tmps[68]?.getD undef = y68 at hT
  generalize a1.tmps[69]?.getD undef = y69 at hT
  generalize a1.tmps[70]?.getD undef = y70 at hT
  generalize a1.tmps[71]?.getD undef = y71 at hT
  generalize a1.tmps[72]?.getD undef = y72 at hT
  generalize a1.tmps[73]?.getD undef = y73 at hT
  generalize a1.tmps[74]?.getD undef = y74 at hT
  generalize a1.tmps[75]?.getD undef = y75 at hT
  generalize a1.tmps[76]?.getD undef = y76 at hT
  generalize a1.tmps[77]?.getD undef = y77 at hT
  generalize a1.tmps[78]?.getD undef = y78 at hT
  generalize a1.tmps[79]?.getD undef = y79 at hT
  generalize a1.tmps[80]?.getD undef = y80 at hT
  generalize a1.tmps[81]?.getD undef = y81 at hT
  generalize a1.tmps[82]?.getD undef = y82 at hT
  generalize a1.tmps[83]?.getD undef = y83 at hT
  generalize a1.tmps[84]?.getD undef = y84 at hT
  generalize a1.tmps[85]?.getD undef = y85 at hT
  generalize a1.tmps[86]?.getD undef = y86 at hT
  generalize a1.tmps[87]?.getD undef = y87 at hT
  generalize a1.tmps[88]?.getD undef = y88 at hT
  generalize a1.tmps[89]?.getD undef = y89 at hT
  generalize a1.tmps[90]?.getD undef = y90 at hT
  generalize a1.tmps[91]?.getD undef = y91 at hT
  generalize a1.tmps[92]?.getD undef = y92 at hT
  generalize a1.tmps[93]?.getD undef = y93 at hT
  generalize a1.tmps[94]?.getD undef = y94 at hT
  generalize a1.tmps[95]?.getD undef = y95 at hT
  generalize a1.tmps[96]?.getD undef = y96 at hT
  generalize a1.tmps[97]?.getD undef = y97 at hT
  generalize a1.tmps[98]?.getD undef = y98 at hT
  generalize a1.tmps[99]?.getD undef = y99 at hT
  generalize a1.tmps[100]?.getD undef = y100 at hT
  generalize a1.tmps[101]?.getD undef = y101 at hT
  generalize a1.tmps[102]?.getD undef = y102 at hT
  generalize a1.tmps[103]?.getD undef = y103 at hT
  generalize a1.tmps[104]?.getD undef = y104 at hT
  generalize a1.tmps[105]?.getD undef = y105 at hT
  generalize a1.tmps[106]?.getD undef = y106 at hT
  generalize a1.tmps[107]?.getD undef = y107 at hT
  generalize a1.tmps[108]?.getD undef = y108 at hT
  generalize a1.tmps[109]?.getD undef = y109 at hT
  generalize a1.tmps[110]?.getD undef = y110 at hT
  generalize a1.tmps[111]?.getD undef = y111 at hT
  generalize a1.tmps[112]?.getD undef = y112 at hT
  obtain ⟨T, D⟩ := a1
  obtain rfl : D = [] := hdf
  obtain rfl : T = _ := hT

  have HX14 := Lib.hid (show Bx1 w.heap.size v2 W3 (.pointer (some ⟨g14, 0, none⟩)) from ⟨g14, A14, c14, rfl, Nat.le_trans hbw2.size hg14, BX14, RX14, HX14⟩)
  dsimp only
  have hbw3 := hbw2.trans (hbW3.mono hbw2.size)
  have HBA := Lib.hid (HBA.out.below hbW3 HBA.out.lt)
  have HBB := Lib.hid (HBB.out.below hbW3 HBB.out.lt)
  have HBS := Lib.hid (HBS.out.below hbW3 HBS.out.lt)
  have HX12 := Lib.hid (HX12.out.later hbW3)
  clear BX14 RX14
  have HLX := Lib.hid HLW.out.1
  by_cases h12 : f1 = 0 ∧ f2 = 0
  rotate_left
  · obtain ⟨b1, hb1⟩ : ∃ b, (f1 != 0) = b := ⟨_, rfl⟩
    obtain ⟨b2, hb2⟩ : ∃ b, (f2 != 0) = b := ⟨_, rfl⟩
    obtain ⟨b3, hb3⟩ : ∃ b, (f1 == 2) = b := ⟨_, rfl⟩
    obtain ⟨b4, hb4⟩ : ∃ b, (f2 == 2) = b := ⟨_, rfl⟩
    have HOR := Lib.hid (show (b1 || b2) = true ∧ ((b1 && b2) || b3 || b4) = true by
      have := HLX.out
      subst hb1 hb2 hb3 hb4
      simp only [bne_iff_ne, Bool.or_eq_true, Bool.and_eq_true, beq_iff_eq]
      constructor
      · by_cases e : f1 = 0
        · exact .inr fun e2 => h12 ⟨e, e2⟩
        · exact .inl e
      · rcases this with h | ⟨h, h'⟩ | h | h
        · exact absurd h h12
        · exact .inl (.inl ⟨h, h'⟩)
        · exact .inl (.inr h)
        · exact .inr h)
    clear h12
    cases b1 <;> cases b2 <;> cases b3 <;> cases b4 <;> first
      | (exfalso; revert HOR; intro HOR; exact absurd HOR.out (by decide))
      | (go_wp2_with fail; go_ret; exact ⟨rfl, hbw3⟩)
  obtain ⟨h1, h2⟩ := h12
  have HV12 := Lib.hid (HLW.out.2.1 h1 h2)
  have HV34 := Lib.hid HLW.out.2.2
  clear HLW HLX
  subst h1 h2
  go_upto_region 8 with (fail)
  refine wp_region_inv (by kernel_rfl) (fun w' => Below W3.heap.size W3 w') (fun st t x w' => Rc a b (.agg #[.slice AC S.cells.length cc, .slice AN S.loops.length cn, .slice AB S.bounds.length cb, .slice AR S.rows.length cr]) A R n c m c9 W3.heap.size f3 v3 w.heap.size st t x w') 15 (by kernel_rfl) ((Below.refl _ _).drew) ?_ ?_
  · intro i o listed a1 w1 h ho hl hd K hK
    have hi : i < 17 := (Array.getElem?_eq_some_iff.1 ho).1
    have hB := h.hc
    obtain rfl | rfl | rfl | rfl | rfl | rfl | rfl | rfl | rfl | rfl | rfl | rfl | rfl | rfl | rfl | rfl | rfl : i = 0 ∨ i = 1 ∨ i = 2 ∨ i = 3 ∨ i = 4 ∨ i = 5 ∨ i = 6 ∨ i = 7 ∨ i = 8 ∨ i = 9 ∨ i = 10 ∨ i = 11 ∨ i = 12 ∨ i = 13 ∨ i = 14 ∨ i = 15 ∨ i = 16 := by omega
    · cases ho
      have o11 : a1.tmps[11]?.getD undef = .func (.func 7) #[] #[] := h.keep_ 11 (by kernel_rfl)
      refine wp_val (w' := w1) (v := .func (.func 7) #[] #[]) (by simp [execOp, Act.eval, go_sem, o11]) ?_
      exact hK _ _ (h.put (by kernel_rfl) rfl hd rfl hB (fun _ _ hx => hx) rfl)
    · cases ho
      have o11 : a1.tmps[11]?.getD undef = .func (.func 7) #[] #[] := h.keep_ 11 (by kernel_rfl)
      refine wp_val (w' := w1) (v := .func (.func 7) #[] #[]) (by simp [execOp, Act.eval, go_sem, o11]) ?_
      exact hK _ _ (h.put (by kernel_rfl) rfl hd rfl hB (fun _ _ hx => hx) rfl)
    · cases ho
      have o5 : a1.tmps[5]?.getD undef = .pointer (some ⟨w.heap.size, 0, none⟩) := h.keep_ 5 (by kernel_rfl)
      have hq := HBA.out.below hB HBA.out.lt
      have q0 : w1.cell? ⟨w.heap.size, 0, none⟩ = _ := hq.cell 0
      have q1 : w1.cell? ⟨w.heap.size, 1, none⟩ = _ := hq.cell 1
      have q2 : w1.cell? ⟨w.heap.size, 2, none⟩ = _ := hq.cell 2
      have q3 : w1.cell? ⟨w.heap.size, 3, none⟩ = _ := hq.cell 3
      have q4 : w1.cell? ⟨w.heap.size, 4, none⟩ = _ := hq.cell 4
      have q5 : w1.cell? ⟨w.heap.size, 5, none⟩ = _ := hq.cell 5
      have q6 : w1.cell? ⟨w.heap.size, 6, none⟩ = _ := hq.cell 6
      have q7 : w1.cell? ⟨w.heap.size, 7, none⟩ = _ := hq.cell 7
      simp only [List.getElem?_toArray, exCells, List.getElem?_cons_zero, List.getElem?_cons_succ] at q0 q1 q2 q3 q4 q5 q6 q7
      refine wp_val (w' := w1) (v := .agg #[.int .i64 a.k, .int .i64 a.op, .string a.nm, .int .i64 a.v.k, .int .i64 a.v.n, .string a.v.s, .slice Aa a.v.l.length ca, .slice Aa' a.ar.length ca']) (by simp [execOp, Act.eval, go_sem, o5, q0, q1, q2, q3, q4, q5, q6, q7]) ?_
      exact hK _ _ (h.put (by kernel_rfl) rfl hd rfl hB (fun _ _ hx => hx) (fun _ => ⟨_, _, _, _, rfl, (HXA.out _ (hbw3.trans (hB.mono hbw3.size)))⟩))
    · cases ho
      have hst := h.notyet 3 [4, 5, 6, 10, 11, 12, 15] hl (by kernel_rfl) rfl
      obtain ⟨x78, e78, r78⟩ := h.at_ 2 rfl (dep_listed hd 2 (by kernel_rfl)) rfl
      obtain ⟨A1, c1, A2, c2, rfl, hx⟩ := r78 hst
      refine wp_val (w' := w1.alloc (.cells #[.int .i64 a.k, .int .i64 a.op, .string a.nm, .int .i64 a.v.k, .int .i64 a.v.n, .string a.v.s, .slice A1 a.v.l.length c1, .slice A2 a.ar.length c2] 27 (0, 0))) (v := .slice (some ⟨w1.heap.size, 0, none⟩) 1 1) (by simp [execOp, Act.eval, go_sem, e78]) ?_
      have hbs := below_a w1 (.cells #[.int .i64 a.k, .int .i64 a.op, .string a.nm, .int .i64 a.v.k, .int .i64 a.v.n, .string a.v.s, .slice A1 a.v.l.length c1, .slice A2 a.ar.length c2] 27 (0, 0))
      exact hK _ _ (h.put (by kernel_rfl) rfl hd rfl (hB.trans (hbs.mono hB.size)) (fun _ _ hx => Rc_later hbs hx) (fun _ => ⟨_, _, _, _, _, rfl, Blk.new w1 _ _, hx.later hbs⟩))
    · cases ho
      have hst := h.notyet 4 [5, 6, 10, 11, 12, 15] hl (by kernel_rfl) rfl
      obtain ⟨x77, e77, r77⟩ := h.at_ 1 rfl (dep_listed hd 1 (by kernel_rfl)) rfl
      obtain ⟨x79, e79, r79⟩ := h.at_ 3 rfl (dep_listed hd 3 (by kernel_rfl)) rfl
      have r77 : x77 = .func (.func 7) #[] #[] := r77
      subst r77
      obtain ⟨g1, A1, c1, A2, c2, rfl, hb1, hx⟩ := r79 hst
      refine wp_in (w' := w1) (f := 7) (args := #[.int .i64 1, .slice (some ⟨g1, 0, none⟩) 1 1]) (by simp [execOp, Act.eval, go_sem, e77, e79]) ?_
      refine (built_any 1 (some ⟨g1, 0, none⟩) 1 1 w1).mono ?_
      rintro en w2 ⟨rfl, hbs⟩
      exact ⟨_, rfl, hK _ _ (h.put (by kernel_rfl) rfl hd rfl (hB.trans (hbs.mono hB.size)) (fun _ _ hx => Rc_later hbs hx) (fun _ => ⟨none, 0, some ⟨g1, 0, none⟩, 1, rfl, ExAt.op1 (hx.later hbs) (hb1.below hbs hb1.lt) (Nat.lt_of_lt_of_le hb1.lt hbs.size)⟩))⟩
    · cases ho
      have hst := h.notyet 5 [6, 10, 11, 12, 15] hl (by kernel_rfl) rfl
      obtain ⟨x80, e80, r80⟩ := h.at_ 4 rfl (dep_listed hd 4 (by kernel_rfl)) rfl
      obtain ⟨A1, c1, A2, c2, rfl, hx⟩ := r80 hst
      refine wp_val (w' := w1.alloc (.cells #[.int .i64 (opE 1 [a]).k, .int .i64 (opE 1 [a]).op, .string (opE 1 [a]).nm, .int .i64 (opE 1 [a]).v.k, .int .i64 (opE 1 [a]).v.n, .string (opE 1 [a]).v.s, .slice A1 (opE 1 [a]).v.l.length c1, .slice A2 (opE 1 [a]).ar.length c2] 27 (0, 0))) (v := .slice (some ⟨w1.heap.size, 0, none⟩) 1 1) (by simp [execOp, Act.eval, go_sem, e80]) ?_
      have hbs := below_a w1 (.cells #[.int .i64 (opE 1 [a]).k, .int .i64 (opE 1 [a]).op, .string (opE 1 [a]).nm, .int .i64 (opE 1 [a]).v.k, .int .i64 (opE 1 [a]).v.n, .string (opE 1 [a]).v.s, .slice A1 (opE 1 [a]).v.l.length c1, .slice A2 (opE 1 [a]).ar.length c2] 27 (0, 0))
      exact hK _ _ (h.put (by kernel_rfl) rfl hd rfl (hB.trans (hbs.mono hB.size)) (fun _ _ hx => Rc_later hbs hx) (fun _ => ⟨_, _, _, _, _, rfl, Blk.new w1 _ _, hx.later hbs⟩))
    · cases ho
      have hst := h.notyet 6 [10, 11, 12, 15] hl (by kernel_rfl) rfl
      obtain ⟨x76, e76, r76⟩ := h.at_ 0 rfl (dep_listed hd 0 (by kernel_rfl)) rfl
      obtain ⟨x81, e81, r81⟩ := h.at_ 5 rfl (dep_listed hd 5 (by kernel_rfl)) rfl
      have r76 : x76 = .func (.func 7) #[] #[] := r76
      subst r76
      obtain ⟨g1, A1, c1, A2, c2, rfl, hb1, hx⟩ := r81 hst
      refine wp_in (w' := w1) (f := 7) (args := #[.int .i64 1, .slice (some ⟨g1, 0, none⟩) 1 1]) (by simp [execOp, Act.eval, go_sem, e76, e81]) ?_
      refine (built_any 1 (some ⟨g1, 0, none⟩) 1 1 w1).mono ?_
      rintro en w2 ⟨rfl, hbs⟩
      exact ⟨_, rfl, hK _ _ (h.put (by kernel_rfl) rfl hd rfl (hB.trans (hbs.mono hB.size)) (fun _ _ hx => Rc_later hbs hx) (fun _ => ⟨none, 0, some ⟨g1, 0, none⟩, 1, rfl, ExAt.op1 (hx.later hbs) (hb1.below hbs hb1.lt) (Nat.lt_of_lt_of_le hb1.lt hbs.size)⟩))⟩
    · cases ho
      have o7 : a1.tmps[7]?.getD undef = .pointer (some ⟨w.heap.size + 2, 0, none⟩) := h.keep_ 7 (by kernel_rfl)
      have hq := HBS.out.below hB HBS.out.lt
      have q0 : w1.cell? ⟨w.heap.size + 2, 0, none⟩ = some (.slice AC S.cells.length cc) := hq.cell 0
      have q1 : w1.cell? ⟨w.heap.size + 2, 1, none⟩ = some (.slice AN S.loops.length cn) := hq.cell 1
      have q2 : w1.cell? ⟨w.heap.size + 2, 2, none⟩ = some (.slice AB S.bounds.length cb) := hq.cell 2
      have q3 : w1.cell? ⟨w.heap.size + 2, 3, none⟩ = some (.slice AR S.rows.length cr) := hq.cell 3
      refine wp_val (w' := w1) (v := .agg #[.slice AC S.cells.length cc, .slice AN S.loops.length cn, .slice AB S.bounds.length cb, .slice AR S.rows.length cr]) (by simp [execOp, Act.eval, go_sem, o7, q0, q1, q2, q3]) ?_
      exact hK _ _ (h.put (by kernel_rfl) rfl hd rfl hB (fun _ _ hx => hx) rfl)
    · cases ho
      have o3 : a1.tmps[3]?.getD undef = .slice A n c := h.keep_ 3 (by kernel_rfl)
      refine wp_val (w' := w1) (v := .slice A n c) (by simp [execOp, Act.eval, go_sem, o3]) ?_
      exact hK _ _ (h.put (by kernel_rfl) rfl hd rfl hB (fun _ _ hx => hx) rfl)
    · cases ho
      have o4 : a1.tmps[4]?.getD undef = .slice R m c9 := h.keep_ 4 (by kernel_rfl)
      refine wp_val (w' := w1) (v := .slice R m c9) (by simp [execOp, Act.eval, go_sem, o4]) ?_
      exact hK _ _ (h.put (by kernel_rfl) rfl hd rfl hB (fun _ _ hx => hx) rfl)
    · cases ho
      have hst := h.notyet 10 [11, 12, 15] hl (by kernel_rfl) rfl
      obtain ⟨x82, e82, r82⟩ := h.at_ 6 rfl (dep_listed hd 6 (by kernel_rfl)) rfl
      obtain ⟨x83, e83, r83⟩ := h.at_ 7 rfl (dep_listed hd 7 (by kernel_rfl)) rfl
      obtain ⟨x84, e84, r84⟩ := h.at_ 8 rfl (dep_listed hd 8 (by kernel_rfl)) rfl
      obtain ⟨x85, e85, r85⟩ := h.at_ 9 rfl (dep_listed hd 9 (by kernel_rfl)) rfl
      have r83 : x83 = .agg #[.slice AC S.cells.length cc, .slice AN S.loops.length cn, .slice AB S.bounds.length cb, .slice AR S.rows.length cr] := r83
      have r84 : x84 = .slice A n c := r84
      have r85 : x85 = .slice R m c9 := r85
      subst r83 r84 r85
      obtain ⟨A1, c1, A2, c2, rfl, hx⟩ := r82 hst
      refine wp_in (w' := w1) (f := 8) (args := #[.agg #[.int .i64 (opE 1 [opE 1 [a]]).k, .int .i64 (opE 1 [opE 1 [a]]).op, .string (opE 1 [opE 1 [a]]).nm, .int .i64 (opE 1 [opE 1 [a]]).v.k, .int .i64 (opE 1 [opE 1 [a]]).v.n, .string (opE 1 [opE 1 [a]]).v.s, .slice A1 (opE 1 [opE 1 [a]]).v.l.length c1, .slice A2 (opE 1 [opE 1 [a]]).ar.length c2], .agg #[.slice AC S.cells.length cc, .slice AN S.loops.length cn, .slice AB S.bounds.length cb, .slice AR S.rows.length cr], .slice A n c, .slice R m c9]) (by simp [execOp, Act.eval, go_sem, e82, e83, e84, e85]) ?_
      refine (HEN.out _ w1 (hbw3.trans (hB.mono hbw3.size)) hx).mono ?_
      rintro en w2 ⟨⟨r, rfl, hr⟩, hbs⟩
      exact ⟨_, rfl, hK _ _ (h.put (by kernel_rfl) rfl hd rfl (hB.trans (hbs.mono hB.size)) (fun _ _ hx => Rc_later hbs hx) ⟨r, rfl, fun _ => hr.base hB.size⟩)⟩
    · cases ho
      obtain ⟨x86, e86, r86⟩ := h.at_ 10 rfl (dep_listed hd 10 (by kernel_rfl)) rfl
      refine wp_val (w' := w1) (v := x86) (by simp [execOp, Act.eval, go_sem, e86]) ?_
      exact hK _ _ (h.put (by kernel_rfl) rfl hd rfl hB (fun _ _ hx => hx) r86)
    · cases ho
      obtain ⟨x75, e75, r75⟩ := h.at_ 11 rfl (dep_listed hd 11 (by kernel_rfl)) rfl
      obtain ⟨r, rfl, hr⟩ := r75
      refine wp_val (w' := w1) (v := r) (by simp [execOp, Act.eval, go_sem, e75]) ?_
      exact hK _ _ (h.put (by kernel_rfl) rfl hd rfl hB (fun _ _ hx => hx) hr)
    · cases ho
      obtain ⟨x75, e75, r75⟩ := h.at_ 11 rfl (dep_listed hd 11 (by kernel_rfl)) rfl
      obtain ⟨r, rfl, hr⟩ := r75
      refine wp_val (w' := w1) (v := .int .i64 f3) (by simp [execOp, Act.eval, go_sem, e75]) ?_
      exact hK _ _ (h.put (by kernel_rfl) rfl hd rfl hB (fun _ _ hx => hx) rfl)
    · cases ho
      have hst := h.notyet 14 [15] hl (by kernel_rfl) rfl
      refine wp_val (w' := w1.alloc (.cells #[.int .i64 0, .int .i64 0, .string ⟨#[]⟩, .slice none 0 0] 24 (0, 0))) (v := .pointer (some ⟨w1.heap.size, 0, none⟩)) (by simp [execOp, go_sem]) ?_
      have hbs := below_a w1 (.cells #[.int .i64 0, .int .i64 0, .string ⟨#[]⟩, .slice none 0 0] 24 (0, 0))
      exact hK _ _ (h.put (by kernel_rfl) rfl hd rfl (hB.trans (hbs.mono hB.size)) (fun _ _ hx => Rc_later hbs hx) ⟨fun _ => ⟨_, rfl, hB.size, Blk.new w1 _ _⟩, fun hs => absurd (hst.symm.trans hs) (by decide)⟩)
    · cases ho
      have hst := h.notyet 15 [] hl (by kernel_rfl) rfl
      obtain ⟨x16, e16, r16⟩ := h.at_ 14 rfl (dep_listed hd 14 (by kernel_rfl)) rfl
      obtain ⟨x87, e87, r87⟩ := h.at_ 12 rfl (dep_listed hd 12 (by kernel_rfl)) rfl
      obtain ⟨g1, rfl, hg1, hb1⟩ := r16.1 hst
      obtain ⟨A1, c1, rfl, ho1, hs1⟩ := r87 hst
      obtain ⟨W2, hW2, hbx, hbs⟩ := Bx1.stored hg1 hb1 ho1 hs1
      obtain ⟨y0, z0, y1, z1, y2, z2, y3, z3⟩ := Blk.z4 hb1
      refine wp_skip (w' := W2) (by rw [hW2]; simp [execOp, Act.eval, go_sem, e16, e87, y0, y1, y2, y3, z0, z1, z2, z3]) ?_
      refine hK _ _ (h.store rfl hd rfl (hB.trans hbs) fun i' o' t' ho' hl' ht' x' hx' hr' => ?_)
      refine Rc_stored (fun e => ?_) hr'
      subst e
      have : x' = .pointer (some ⟨g1, 0, none⟩) := by
        rw [hx'] at e16
        exact e16
      rw [this]
      exact hbx
    · cases ho
      obtain ⟨x88, e88, r88⟩ := h.at_ 13 rfl (dep_listed hd 13 (by kernel_rfl)) rfl
      have r88 : x88 = .int .i64 f3 := r88
      subst r88
      refine wp_val (w' := w1) (v := .int .i64 f3) (by simp [execOp, Act.eval, go_sem, e88]) ?_
      exact hK _ _ (h.put (by kernel_rfl) rfl hd rfl hB (fun _ _ hx => hx) rfl)
  intro listed a1 W4 h hall
  have hsz := h.tsize
  have hdf := h.defers
  have hbW4 : Below W3.heap.size W3 W4 := h.hc
  obtain ⟨x12, e12, r12⟩ := h.at_ 14 rfl (hall 14 (by decide)) rfl
  obtain ⟨x13, e13, r13⟩ := h.at_ 16 rfl (hall 16 (by decide)) rfl
  have hst : listed.getD 15 false = true := hall 15 (by decide)
  obtain ⟨g16, A16, c16, rfl, hg16, BX16, RX16, HX16⟩ := r12.2 hst
  have r13 : x13 = .int .i64 f3 := r13
  subst r13
  have o3 : a1.tmps[3]?.getD undef = .slice A n c := h.keep_ 3 (by kernel_rfl)
  have o4 : a1.tmps[4]?.getD undef = .slice R m c9 := h.keep_ 4 (by kernel_rfl)
  have o5 : a1.tmps[5]?.getD undef = .pointer (some ⟨w.heap.size, 0, none⟩) := h.keep_ 5 (by kernel_rfl)
  have o6 : a1.tmps[6]?.getD undef = .pointer (some ⟨w.heap.size + 1, 0, none⟩) := h.keep_ 6 (by kernel_rfl)
  have o7 : a1.tmps[7]?.getD undef = .pointer (some ⟨w.heap.size + 2, 0, none⟩) := h.keep_ 7 (by kernel_rfl)
  have o11 : a1.tmps[11]?.getD undef = .func (.func 7) #[] #[] := h.keep_ 11 (by kernel_rfl)
  have o12 : a1.tmps[12]?.getD undef = .pointer (some ⟨g12, 0, none⟩) := h.keep_ 12 (by kernel_rfl)
  have o14 : a1.tmps[14]?.getD undef = .pointer (some ⟨g14, 0, none⟩) := h.keep_ 14 (by kernel_rfl)
  have hT := slots_eq a1.tmps 113 hsz
  rw [show ((List.range 113).map (fun i => a1.tmps[i]?.getD undef)).toArray = #[a1.tmps[0]?.getD undef, a1.tmps[1]?.getD undef, a1.tmps[2]?.getD undef, a1.tmps[3]?.getD undef, a1.tmps[4]?.getD undef, a1.tmps[5]?.getD undef, a1.tmps[6]?.getD undef, a1.tmps[7]?.getD undef, a1.tmps[8]?.getD undef, a1.tmps[9]?.getD undef, a1.tmps[10]?.getD undef, a1.tmps[11]?.getD undef, a1.tmps[12]?.getD undef, a1.tmps[13]?.getD undef, a1.tmps[14]?.getD undef, a1.tmps[15]?.getD undef, a1.tmps[16]?.getD undef, a1.tmps[17]?.getD undef, a1.tmps[18]?.getD undef, a1.tmps[19]?.getD undef, a1.tmps[20]?.getD undef, a1.tmps[21]?.getD undef, a1.tmps[22]?.getD undef, a1.tmps[23]?.getD undef, a1.tmps[24]?.getD undef, a1.tmps[25]?.getD undef, a1.tmps[26]?.getD undef, a1.tmps[27]?.getD undef, a1.tmps[28]?.getD undef, a1.tmps[29]?.getD undef, a1.tmps[30]?.getD undef, a1.tmps[31]?.getD undef, a1.tmps[32]?.getD undef, a1.tmps[33]?.getD undef, a1.tmps[34]?.getD undef, a1.tmps[35]?.getD undef, a1.tmps[36]?.getD undef, a1.tmps[37]?.getD undef, a1.tmps[38]?.getD undef, a1.tmps[39]?.getD undef, a1.tmps[40]?.getD undef, a1.tmps[41]?.getD undef, a1.tmps[42]?.getD undef, a1.tmps[43]?.getD undef, a1.tmps[44]?.getD undef, a1.tmps[45]?.getD undef, a1.tmps[46]?.getD undef, a1.tmps[47]?.getD undef, a1.tmps[48]?.getD undef, a1.tmps[49]?.getD undef, a1.tmps[50]?.getD undef, a1.tmps[51]?.getD undef, a1.tmps[52]?.getD undef, a1.tmps[53]?.getD undef, a1.tmps[54]?.getD undef, a1.tmps[55]?.getD undef, a1.tmps[56]?.getD undef, a1.tmps[57]?.getD undef, a1.tmps[58]?.getD undef, a1.tmps[59]?.getD undef, a1.tmps[60]?.getD undef, a1.tmps[61]?.getD undef, a1.tmps[62]?.getD undef, a1.tmps[63]?.getD undef, a1.tmps[64]?.getD undef, a1.tmps[65]?.getD undef, a1.tmps[66]?.getD undef, a1.tmps[67]?.getD undef, a1.tmps[68]?.getD undef, a1.tmps[69]?.getD undef, a1.tmps[70]?.getD undef, a1.tmps[71]?.getD undef, a1.tmps[72]?.getD undef, a1.tmps[73]?.getD undef, a1.tmps[74]?.getD undef, a1.tmps[75]?.getD undef, a1.tmps[76]?.getD undef, a1.tmps[77]?.getD undef, a1.tmps[78]?.getD undef, a1.tmps[79]?.getD undef, a1.tmps[80]?.getD undef, a1.tmps[81]?.getD undef, a1.tmps[82]?.getD undef, a1.tmps[83]?.getD undef, a1.tmps[84]?.getD undef, a1.tmps[85]?.getD undef, a1.tmps[86]?.getD undef, a1.tmps[87]?.getD undef, a1.tmps[88]?.getD undef, a1.tmps[89]?.getD undef, a1.tmps[90]?.getD undef, a1.tmps[91]?.getD undef, a1.tmps[92]?.getD undef, a1.tmps[93]?.getD undef, a1.tmps[94]?.getD undef, a1.tmps[95]?.getD undef, a1.tmps[96]?.getD undef, a1.tmps[97]?.getD undef, a1.tmps[98]?.getD undef, a1.tmps[99]?.getD undef, a1.tmps[100]?.getD undef, a1.tmps[101]?.getD undef, a1.tmps[102]?.getD undef, a1.tmps[103]?.getD undef, a1.tmps[104]?.getD undef, a1.tmps[105]?.getD undef, a1.tmps[106]?.getD undef, a1.tmps[107]?.getD undef, a1.tmps[108]?.getD undef, a1.tmps[109]?.getD undef, a1.tmps[110]?.getD undef, a1.tmps[111]?.getD undef, a1.tmps[112]?.getD undef] from rfl] at hT
  rw [e12, e13, o3, o4, o5, o6, o7, o11, o12, o14] at hT
  clear h hall hst e12 e13 r12 o3 o4 o5 o6 o7 o11 o12 o14 hsz
  generalize a1.tmps[0]?.getD undef = y0 at hT
  generalize a1.tmps[1]?.getD undef = y1 at hT
  generalize a1.tmps[2]?.getD undef = y2 at hT
  generalize a1.tmps[8]?.getD undef = y8 at hT
  generalize a1.tmps[9]?.getD undef = y9 at hT
  generalize a1.tmps[10]?.getD undef = y10 at hT
  generalize a1.tmps[13]?.getD undef = y13 at hT
  generalize a1.tmps[15]?.getD undef = y15 at hT
  generalize a1.tmps[18]?.getD undef = y18 at hT
  generalize a1.tmps[19]?.getD undef = y19 at hT
  generalize a1.tmps[20]?.getD undef = y20 at hT
  generalize a1.tmps[21]?.getD undef = y21 at hT
  generalize a1.tmps[22]?.getD undef = y22 at hT
  generalize a1.tmps[23]?.getD undef = y23 at hT
  generalize a1.tmps[24]?.getD undef = y24 at hT
  generalize a1.tmps[25]?.getD undef = y25 at hT
  generalize a1.tmps[26]?.getD undef = y26 at hT
  generalize a1.tmps[27]?.getD undef = y27 at hT
  generalize a1.tmps[28]?.getD undef = y28 at hT
  generalize a1.tmps[29]?.getD undef = y29 at hT
  generalize a1.tmps[30]?.getD undef = y30 at hT
  generalize a1.tmps[31]?.getD undef = y31 at hT
  generalize a1.tmps[32]?.getD undef = y32 at hT
  generalize a1.tmps[33]?.getD undef = y33 at hT
  generalize a1.tmps[34]?.getD undef = y34 at hT
  generalize a1.tmps[35]?.getD undef = y35 at hT
  generalize a1.tmps[36]?.getD undef = y36 at hT
  generalize a1.tmps[37]?.getD undef = y37 at hT
  generalize a1.tmps[38]?.getD undef = y38 at hT
  generalize a1.tmps[39]?.getD undef = y39 at hT
  generalize a1.tmps[40]?.getD undef = y40 at hT
  generalize a1.tmps[41]?.getD undef = y41 at hT
  generalize a1.tmps[42]?.getD undef = y42 at hT
  generalize a1.tmps[43]?.getD undef = y43 at hT
  generalize a1.tmps[44]?.getD undef = y44 at hT
  generalize a1.tmps[45]?.getD undef = y45 at hT
  generalize a1.tmps[46]?.getD undef = y46 at hT
  generalize a1.tmps[47]?.getD undef = y47 at hT
  generalize a1.tmps[48]?.getD undef = y48 at hT
  generalize a1.tmps[49]?.getD undef = y49 at hT
  generalize a1.tmps[50]?.getD undef = y50 at hT
  generalize a1.tmps[51]?.getD undef = y51 at hT
  generalize a1.tmps[52]?.getD undef = y52 at hT
  generalize a1.tmps[53]?.getD undef = y53 at hT
  generalize a1.tmps[54]?.getD undef = y54 at hT
  generalize a1.tmps[55]?.getD undef = y55 at hT
  generalize a1.tmps[56]?.getD undef = y56 at hT
  generalize a1.tmps[57]?.getD undef = y57 at hT
  generalize a1.tmps[58]?.getD undef = y58 at hT
  generalize a1.tmps[59]?.getD undef = y59 at hT
  generalize a1.tmps[60]?.getD undef = y60 at hT
  generalize a1.tmps[61]?.getD undef = y61 at hT
  generalize a1.tmps[62]?.getD undef = y62 at hT
  generalize a1.tmps[63]?.getD undef = y63 at hT
  generalize a1.tmps[64]?.getD undef = y64 at hT
  generalize a1.tmps[65]?.getD undef = y65 at hT
  generalize a1.tmps[66]?.getD undef = y66 at hT
  generalize a1.tmps[67]?.getD undef = y67 at hT
  generalize a1.tmps[68]?.getD undef = y68 at hT
  generalize a1.tmps[69]?.getD undef = y69 at hT
  generalize a1.tmps[70]?.getD undef = y70 at hT
  generalize a1.tmps[71]?.getD undef = y71 at hT
  generalize a1.tmps[72]?.getD undef = y72 at hT
  generalize a1.tmps[73]?.getD undef = y73 at hT
  generalize a1.tmps[74]?.getD undef = y74 at hT
  generalize a1.tmps[75]?.getD undef = y75 at hT
  generalize a1.tmps[76]?.getD undef = y76 at hT
  generalize a1.tmps[77]?.getD undef = y77 at hT
  generalize a1.tmps[78]?.getD undef = y78 at hT
  generalize a1.tmps[79]?.getD undef = y79 at hT
  generalize a1.tmps[80]?.getD undef = y80 at hT
  generalize a1.tmps[81]?.getD undef = y81 at hT
  generalize a1.tmps[82]?.getD undef = y82 at hT
  generalize a1.tmps[83]?.getD undef = y83 at hT
  generalize a1.tmps[84]?.getD undef = y84 at hT
  generalize a1.tmps[85]?.getD undef = y85 at hT
  generalize a1.tmps[86]?.getD undef = y86 at hT
  generalize a1.tmps[87]?.getD undef = y87 at hT
  generalize a1.tmps[88]?.getD undef = y88 at hT
  generalize a1.tmps[89]?.getD undef = y89 at hT
  generalize a1.tmps[90]?.getD undef = y90 at hT
  generalize a1.tmps[91]?.getD undef = y91 at hT
  generalize a1.tmps[92]?.getD undef = y92 at hT
  generalize a1.tmps[93]?.getD undef = y93 at hT
  generalize a1.tmps[94]?.getD undef = y94 at hT
  generalize a1.tmps[95]?.getD undef = y95 at hT
  generalize a1.tmps[96]?.getD undef = y96 at hT
  generalize a1.tmps[97]?.getD undef = y97 at hT
  generalize a1.tmps[98]?.getD undef = y98 at hT
  generalize a1.tmps[99]?.getD undef = y99 at hT
  generalize a1.tmps[100]?.getD undef = y100 at hT
  generalize a1.tmps[101]?.getD undef = y101 at hT
  generalize a1.tmps[102]?.getD undef = y102 at hT
  generalize a1.tmps[103]?.getD undef = y103 at hT
  generalize a1.tmps[104]?.getD undef = y104 at hT
  generalize a1.tmps[105]?.getD undef = y105 at hT
  generalize a1.tmps[106]?.getD undef = y106 at hT
  generalize a1.tmps[107]?.getD undef = y107 at hT
  generalize a1.tmps[108]?.getD undef = y108 at hT
  generalize a1.tmps[109]?.getD undef = y109 at hT
  generalize a1.tmps[110]?.getD undef = y110 at hT
  generalize a1.tmps[111]?.getD undef = y111 at hT
  generalize a1.tmps[112]?.getD undef = y112 at hT
  obtain ⟨T, D⟩ := a1
  obtain rfl : D = [] := hdf
  obtain rfl : T = _ := hT

  have HX16 := Lib.hid (show Bx1 w.heap.size v3 W4 (.pointer (some ⟨g16, 0, none⟩)) from ⟨g16, A16, c16, rfl, Nat.le_trans hbw3.size hg16, BX16, RX16, HX16⟩)
  dsimp only
  have hbw4 := hbw3.trans (hbW4.mono hbw3.size)
  have HBA := Lib.hid (HBA.out.below hbW4 HBA.out.lt)
  have HBB := Lib.hid (HBB.out.below hbW4 HBB.out.lt)
  have HBS := Lib.hid (HBS.out.below hbW4 HBS.out.lt)
  have HX12 := Lib.hid (HX12.out.later hbW4)
  have HX14 := Lib.hid (HX14.out.later hbW4)
  clear BX16 RX16
  have ec0 : W4.cell? ⟨w.heap.size, 0, none⟩ = some (.int .i64 a.k) := (HBA.out).cell 0
  have ec1 : W4.cell? ⟨w.heap.size, 1, none⟩ = some (.int .i64 a.op) := (HBA.out).cell 1
  have ec2 : W4.cell? ⟨w.heap.size, 2, none⟩ = some (.string a.nm) := (HBA.out).cell 2
  have ec3 : W4.cell? ⟨w.heap.size, 3, none⟩ = some (.int .i64 a.v.k) := (HBA.out).cell 3
  have ec4 : W4.cell? ⟨w.heap.size, 4, none⟩ = some (.int .i64 a.v.n) := (HBA.out).cell 4
  have ec5 : W4.cell? ⟨w.heap.size, 5, none⟩ = some (.string a.v.s) := (HBA.out).cell 5
  have ec6 : W4.cell? ⟨w.heap.size, 6, none⟩ = some (.slice Aa a.v.l.length ca) := (HBA.out).cell 6
  have ec7 : W4.cell? ⟨w.heap.size, 7, none⟩ = some (.slice Aa' a.ar.length ca') := (HBA.out).cell 7
  have es0 : W4.cell? ⟨w.heap.size + 2, 0, none⟩ = some (.slice AC S.cells.length cc) := (HBS.out).cell 0
  have es1 : W4.cell? ⟨w.heap.size + 2, 1, none⟩ = some (.slice AN S.loops.length cn) := (HBS.out).cell 1
  have es2 : W4.cell? ⟨w.heap.size + 2, 2, none⟩ = some (.slice AB S.bounds.length cb) := (HBS.out).cell 2
  have es3 : W4.cell? ⟨w.heap.size + 2, 3, none⟩ = some (.slice AR S.rows.length cr) := (HBS.out).cell 3
  have HEA4 := Lib.hid (show Calls Tryz.prog 8 #[.agg #[.int .i64 a.k, .int .i64 a.op, .string a.nm, .int .i64 a.v.k, .int .i64 a.v.n, .string a.v.s, .slice Aa a.v.l.length ca, .slice Aa' a.ar.length ca'], .agg #[.slice AC S.cells.length cc, .slice AN S.loops.length cn, .slice AB S.bounds.length cb, .slice AR S.rows.length cr], .slice A n c, .slice R m c9] W4 fun en w'' => (∃ x, en = .returned (.tuple #[x, .int .i64 f4]) ∧ OwV W4.heap.size v4 w'' x) ∧ Below W4.heap.size W4 w'' from HEA.out _ W4 hbw4 (HXA.out _ hbw4))
  go_upto_region 10 with (go_at_call 8; (with_reducible refine HEA4.out.mono ?_); rintro e5 w5 ⟨⟨r5, rfl, A18, c18, rfl, ho18, hs18⟩, hb5⟩)
  clear ec0 ec1 ec2 ec3 ec4 ec5 ec6 ec7 es0 es1 es2 es3
  obtain ⟨W6, hW6⟩ : ∃ W6, W6 = w5.alloc (.cells #[.int .i64 v4.k, .int .i64 v4.n, .string v4.s, .slice A18 v4.l.length c18] 24 (0, 0)) := ⟨_, rfl⟩
  rw [← hW6]
  have hb56 : Below w5.heap.size w5 W6 := hW6 ▸ below_a w5 _
  have B18 : Blk W6 w5.heap.size 24 #[.int .i64 v4.k, .int .i64 v4.n, .string v4.s, .slice A18 v4.l.length c18] := hW6 ▸ Blk.new w5 _ _
  have R18 : Reads W6 W6.heap.size 1 A18 v4.l.length (numV .i64 v4.l) := ((Reads.of_own ho18).below hb56).more hb56.size
  clear hW6 ho18
  have hb46 := hb5.trans (hb56.mono hb5.size)
  have hbw6 := hbw4.trans (hb46.mono hbw4.size)
  obtain ⟨A1, c1, B1, R1, s1⟩ := (HX12.out.later hb46).get
  obtain ⟨A2, c2, B2, R2, s2⟩ := (HX14.out.later hb46).get
  obtain ⟨A3, c3, B3, R3, s3⟩ := (HX16.out.later hb46).get
  have hv12 := HV12.out
  have H1S := Lib.hid (show Calls Tryz.prog 9 #[.agg #[.int .i64 v1.k, .int .i64 v1.n, .string v1.s, .slice A1 v1.l.length c1], .agg #[.int .i64 v2.k, .int .i64 v2.n, .string v2.s, .slice A2 v2.l.length c2]] W6 fun en w'' => en = .returned (.bool true) ∧ Below W6.heap.size W6 w'' from by
    have h := same_any v1 v2 A1 A2 c1 c2 W6.heap.size W6.heap.size W6 s1.2 s2.2 R1 R2 (Nat.le_refl _) (Nat.le_refl _)
    rw [show sameV v1 v2 = true from hv12 ▸ sameV_self v1] at h
    exact h)
  have H2S := Lib.hid (show ∀ w', Below W6.heap.size W6 w' → f3 = 0 → f4 = 0 → Calls Tryz.prog 9 #[.agg #[.int .i64 v3.k, .int .i64 v3.n, .string v3.s, .slice A3 v3.l.length c3], .agg #[.int .i64 v4.k, .int .i64 v4.n, .string v4.s, .slice A18 v4.l.length c18]] w' fun en w'' => en = .returned (.bool true) ∧ Below w'.heap.size w' w'' from fun w' hb e3 e4 => by
    have h := same_any v3 v4 A3 A18 c3 c18 W6.heap.size W6.heap.size w' s3.2 hs18.2 (R3.below hb) (R18.below hb) hb.size hb.size
    rw [show sameV v3 v4 = true from HV34.out e3 e4 ▸ sameV_self v3] at h
    exact h)
  have HB3 := Lib.hid B3
  have HB18 := Lib.hid B18
  obtain ⟨p0, -, p1, -, p2, -, p3, -⟩ := Blk.z4 B1
  obtain ⟨q0, -, q1, -, q2, -, q3, -⟩ := Blk.z4 B2
  clear s1 s2 s3 hs18 R1 R2 R3 R18 hv12 B1 B2 B3 B18 hb5 hb56 hb46
  obtain ⟨b3, hb3⟩ : ∃ b, (f3 != 0) = b := ⟨_, rfl⟩
  obtain ⟨b4, hb4⟩ : ∃ b, (f4 != 0) = b := ⟨_, rfl⟩
  have HF := Lib.hid (And.intro hb3 hb4)
  cases b3
  · cases b4
    · have e3 : f3 = 0 := by simpa using HF.out.1
      have e4 : f4 = 0 := by simpa using HF.out.2
      have H3S := Lib.hid (fun w' hb => H2S.out w' hb e3 e4)
      clear e3 e4
      go_wp2_with (first
        | (go_at_call 9; (with_reducible refine H1S.out.mono ?_); rintro e7 w7 ⟨rfl, hb7⟩; obtain ⟨r0, -, r1, -, r2, -, r3, -⟩ := Blk.z4 (HB3.out.below hb7 HB3.out.lt); obtain ⟨u0, -, u1, -, u2, -, u3, -⟩ := Blk.z4 (HB18.out.below hb7 HB18.out.lt))
        | (go_at_call 9; (with_reducible refine (H3S.out _ hb7).mono ?_); rintro e8 w8 ⟨rfl, hb8⟩; have hbw8 := hbw6.trans ((hb7.trans (hb8.mono hb7.size)).mono hbw6.size)))
      go_ret
      exact ⟨rfl, hbw8⟩
    · go_wp2_with (go_at_call 9; (with_reducible refine H1S.out.mono ?_); rintro e7 w7 ⟨rfl, hb7⟩; have hbw7 := hbw6.trans (hb7.mono hbw6.size))
      go_ret
      exact ⟨rfl, hbw7⟩
  · go_wp2_with (go_at_call 9; (with_reducible refine H1S.out.mono ?_); rintro e7 w7 ⟨rfl, hb7⟩; have hbw7 := hbw6.trans (hb7.mono hbw6.size))
    go_ret
    exact ⟨rfl, hbw7⟩
end Go.Proofs.YtpanbeoelbhhgaaGreatDoor
