/- A value's parts, and lists of ints as cells, for seats that do not reach Compare. No condition. -/
import Derived.Test.YthnknmkekbledaaGreatDoorBase
namespace Go.Proofs.YthnknmkekbledaaGreatDoor
open Go.RowKit

def numV (k : IntKind) (l : List Int) : List Value := l.map (Value.int k)
theorem numV_get (κ : IntKind) (l : List Int) (k : Nat) (u : Value) (h : (numV κ l)[k]? = some u) : ∃ h : k < l.length, u = .int κ l[k] := by
  unfold numV at h
  rw [List.getElem?_map] at h
  rcases hk : l[k]? with _ | x
  · rw [hk] at h; simp at h
  · rw [hk] at h
    simp at h
    obtain ⟨hl, hx⟩ := List.getElem?_eq_some_iff.1 hk
    exact ⟨hl, by rw [hx, h]⟩
theorem numV_len (κ : IntKind) (l : List Int) : (numV κ l).length = l.length := by simp [numV]

structure Val where
  k : Int
  n : Int
  s : ByteArray
  l : List Int
def sameV (x y : Val) : Bool := decide (x.k = y.k) && decide (x.n = y.n) && decide (x.s = y.s) && decide (x.l = y.l)
end Go.Proofs.YthnknmkekbledaaGreatDoor
