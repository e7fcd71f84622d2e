/- The law of opposites, over Eval. -/
import Derived.Test.YtpanbeoelbhhgaaGreatDoorO2
import Derived.Test.YtpanbeoelbhhgaaGreatDoorY27
namespace Go.Proofs.YtpanbeoelbhhgaaGreatDoor
open Go.RowKit

theorem BoundAt.up {w : World} {B B' : Nat} {d : BoundD} {cs : List Value} (h : BoundAt w B d cs) (hb : B ≤ B') : BoundAt w B' d cs := by
  obtain ⟨⟨A1, c1, A2, c2, e, h1, h2⟩, h3, h4, h5, h6⟩ := h
  exact ⟨⟨A1, c1, A2, c2, e, h1.more hb, h2.more hb⟩, h3, h4, h5, h6⟩
theorem LiesAt.up {α : Type} {P : World → Nat → α → List Value → Prop} {size B B' : Nat} {w : World} {A : Option Addr} {l : List α} (hp : ∀ d cs, P w B d cs → P w B' d cs) (h : LiesAt P size w B A l) (hb : B ≤ B') : LiesAt P size w B' A l := by
  obtain ⟨h0, cs, hr, hi⟩ := h
  exact ⟨h0, cs, hr.more hb, fun i hi' => hp _ _ (hi i hi')⟩
theorem RowAt.up {w : World} {B B' : Nat} {d : RowD} {cs : List Value} (h : RowAt w B d cs) (hb : B ≤ B') : RowAt w B' d cs := by
  obtain ⟨⟨A1, c1, A2, c2, e, h1, h2⟩, h3, h4, h5⟩ := h
  exact ⟨⟨A1, c1, A2, c2, e, h1.more hb, h2.more hb⟩, h3, h4, h5⟩
theorem parts_op (op : Int) (l : List Ex) : (opE op l).parts = partsL l + 1 := by
  show Ex.parts (.mk 4 op ⟨#[]⟩ zeroV l) = _
  rw [Ex.parts]
/-- Eval at a later world, of an expression that may lie in new memory -/
theorem evalAt (S : SceneD) (e : Ex) (cs : List Value) (at_ : List ByteArray) (A : Option Addr) (c : Nat) (AC AN AB AR : Option Addr) (cc cn cb cr B : Nat) (row : List Int) (R : Option Addr) (c9 : Nat) (w w' : World) (hC : CellsAt w B AC S.cells) (hN : NestsAt w B AN S.loops) (hLb : BoundsAt w B AB S.bounds) (hLr : RowssAt w B AR S.rows) (ha : at_.length ≤ maxLen) (hat : StrsAt w B A at_) (hc : at_.length ≤ c) (hs : ∀ s ∈ at_, s.size ≤ maxLen) (hCL : ∀ d ∈ S.cells, d.loops.length ≤ 1048576) (hNL : ∀ d ∈ S.loops, d.loops.length ≤ 1048576) (hrow : Reads w B 1 R row.length (numV .i64 row)) (hrc : row.length ≤ c9) (hrl : row.length ≤ 1048577) (hB : B ≤ w.heap.size) (htab : Tab10 w) (hmx : Mx w) (hb : Below w.heap.size w w') (hx : ExAt w' w'.heap.size e cs) (hp : e.parts ≤ 1000000) :
    Calls Tryz.prog 8 #[.agg cs.toArray, .agg #[.slice AC S.cells.length cc, .slice AN S.loops.length cn, .slice AB S.bounds.length cb, .slice AR S.rows.length cr], .slice A at_.length c, .slice R row.length c9] w' fun en w'' => (∃ x, en = .returned (.tuple #[x, .int .i64 (evFault S e at_ row)]) ∧ TRet w'.heap.size w'' (evalV S e at_ row) x) ∧ Below w'.heap.size w' w'' := by
  have hbB := hb.mono hB
  have hB' := Nat.le_trans hB hb.size
  exact evalTop_any S e cs at_ A c AC AN AB AR cc cn cb cr w'.heap.size row R c9 w' (LiesAt.up (fun _ _ h => h.up hB') (hC.keep hbB) hB') (LiesAt.up (fun _ _ h => h.up hB') (hN.keep hbB) hB') (LiesAt.up (fun _ _ h => h.up hB') (hLb.keep hbB) hB') (LiesAt.up (fun _ _ h => h.up hB') (hLr.keep hbB) hB') hx ha ((hat.below hbB).more hB') hc hs hp hCL hNL ((hrow.below hbB).more hB') hrc hrl (Nat.le_refl _) (htab.below hb) (hmx.below hb)
theorem opposites_any (S : SceneD) (a b : Ex) (cs ds : List Value) (at_ : List ByteArray) (A : Option Addr) (c : Nat) (AC AN AB AR : Option Addr) (cc cn cb cr B : Nat) (row : List Int) (R : Option Addr) (c9 : Nat) (w : World) (hC : CellsAt w B AC S.cells) (hN : NestsAt w B AN S.loops) (hLb : BoundsAt w B AB S.bounds) (hLr : RowssAt w B AR S.rows) (hx : ExAt w B a cs) (hy : ExAt w B b ds) (ha : at_.length ≤ maxLen) (hat : StrsAt w B A at_) (hc : at_.length ≤ c) (hs : ∀ s ∈ at_, s.size ≤ maxLen) (hp : a.parts + b.parts ≤ 900000) (hCL : ∀ d ∈ S.cells, d.loops.length ≤ 1048576) (hNL : ∀ d ∈ S.loops, d.loops.length ≤ 1048576) (hrow : Reads w B 1 R row.length (numV .i64 row)) (hrc : row.length ≤ c9) (hrl : row.length ≤ 1048577) (hB : B ≤ w.heap.size) (htab : Tab10 w) (hmx : Mx w) (haw : ∀ w', Below w.heap.size w w' → Calls Tryz.prog 6 #[] w' fun en w'' => en = .returned (.bool true) ∧ Below w'.heap.size w' w'') :
    Calls Tryz.prog 3 #[.agg cs.toArray, .agg ds.toArray, .agg #[.slice AC S.cells.length cc, .slice AN S.loops.length cn, .slice AB S.bounds.length cb, .slice AR S.rows.length cr], .slice A at_.length c, .slice R row.length c9] w fun en w' => en = .returned (.bool true) ∧ Below w.heap.size w w' := by
  have hpp : partsL [a, b] = a.parts + b.parts := by simp [partsL]
  have hev : ∀ (e : Ex), e.parts ≤ 1000000 → ∀ cs' w', Below w.heap.size w w' → ExAt w' w'.heap.size e cs' → Calls Tryz.prog 8 #[.agg cs'.toArray, .agg #[.slice AC S.cells.length cc, .slice AN S.loops.length cn, .slice AB S.bounds.length cb, .slice AR S.rows.length cr], .slice A at_.length c, .slice R row.length c9] w' fun en w'' => (∃ x, en = .returned (.tuple #[x, .int .i64 (evFault S e at_ row)]) ∧ OwV w'.heap.size (evalV S e at_ row) w'' x) ∧ Below w'.heap.size w' w'' := fun e he cs' w' hb hx' =>
    (evalAt S e cs' at_ A c AC AN AB AR cc cn cb cr B row R c9 w w' hC hN hLb hLr ha hat hc hs hCL hNL hrow hrc hrl hB htab hmx hb hx' he).mono fun _ _ h => h
  exact opposites_1 S a b cs ds A c at_.length row.length AC AN AB AR cc cn cb cr B R c9 w _ _ _ _ _ _ _ _ hx hy hB haw
    (hev (eL a b) (by simp only [parts_op, partsL]; omega)) (hev (eR a b) (by simp only [parts_op, partsL]; omega)) (hev (opE 1 [opE 1 [a]]) (by simp only [parts_op, partsL]; omega)) (hev a (by omega))
    (law_faults S a b at_ row) law_opposites law_twice
end Go.Proofs.YtpanbeoelbhhgaaGreatDoor
