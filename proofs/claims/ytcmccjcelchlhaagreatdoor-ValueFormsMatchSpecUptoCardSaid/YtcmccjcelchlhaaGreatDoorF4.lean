/- The walks of shapeOf and arity of the reference. · The walk of partFault: which fault a part of an expression has by itself. -/
import Derived.Test.YtcmccjcelchlhaaGreatDoorF3
namespace Go.Proofs.YtcmccjcelchlhaaGreatDoor
open Go.RowKit

def shArgs (op : Int) : List Int :=
  if op = 1 ∨ op = 2 ∨ op = 3 then [7] else
  if op = 4 ∨ op = 5 ∨ op = 27 then [-1, -1] else
  if op = 6 ∨ op = 7 ∨ op = 8 ∨ op = 9 then [-2, -2] else
  if op = 10 then [4, 5] else
  if op = 11 then [5, 4] else
  if op = 12 ∨ op = 13 ∨ op = 14 then [-1] else
  if op = 15 ∨ op = 16 ∨ op = 17 ∨ op = 18 ∨ op = 19 then [2, 2] else
  if op = 20 ∨ op = 21 ∨ op = 22 ∨ op = 23 then [2] else
  if op = 24 ∨ op = 25 then [-2] else
  if op = 26 then [7, -1, -1] else
  if op = 28 then [-3] else
  if op = 29 then [4] else
  if op = 30 then [3] else
  if op = 31 ∨ op = 32 ∨ op = 33 then [3, 3] else
  if op = 34 ∨ op = 35 ∨ op = 36 then [6] else
  if op = 37 ∨ op = 38 then [6, 6] else [6, 2]
def shRes (op : Int) : Int :=
  if op = 1 ∨ op = 2 ∨ op = 3 ∨ op = 4 ∨ op = 5 ∨ op = 6 ∨ op = 7 ∨ op = 8 ∨ op = 9 ∨ op = 10 ∨ op = 11 ∨ op = 12 ∨ op = 13 ∨ op = 32 ∨ op = 33 then 7 else if op = 14 ∨ op = 15 ∨ op = 16 ∨ op = 17 ∨ op = 18 ∨ op = 19 ∨ op = 20 ∨ op = 21 ∨ op = 22 ∨ op = 23 ∨ op = 28 ∨ op = 29 ∨ op = 34 ∨ op = 35 ∨ op = 36 ∨ op = 37 ∨ op = 38 then 2 else if op = 24 ∨ op = 25 then -2 else if op = 26 ∨ op = 27 then -1 else if op = 30 ∨ op = 31 then 3 else 6
def shMore (op : Int) : Bool := decide (op = 2 ∨ op = 3 ∨ op = 24 ∨ op = 25)
theorem blk_new2 (w : World) (o : Obj) (t : TypeId) (cs : Array Value) : Blk ((w.alloc o).alloc (.cells cs t)) (w.heap.size + 1) t cs := by
  have := Blk.new (w.alloc o) t cs
  rwa [World.size_alloc] at this
/-- what shapeOf hands back -/
structure ShR (e : Ending) (w w' : World) (op : Int) : Prop where
  he : e = .returned (.agg #[.slice (some ⟨w.heap.size + 1, 0, none⟩) (shArgs op).length (shArgs op).length, .int .i64 (shRes op), .bool (shMore op)])
  hB : Blk w' (w.heap.size + 1) 3 (numV .i64 (shArgs op)).toArray
  hb : Below w.heap.size w w'
set_option maxHeartbeats 1000000 in
set_option maxRecDepth 100000 in
theorem shape_1 (w : World) : Calls Tryz.prog 81 #[.int .i64 1] w fun e w' => ShR e w w' 1 := by
  go_enter Tryz.func81, Tryz.ntmps81
  go_wp2
  exact bodyPost_ret (v := .agg #[.slice (some ⟨w.heap.size + 1, 0, none⟩) 1 1, .int .i64 7, .bool false]) (by simp [results, Tryz.results81, go_sem]) rfl ⟨rfl, (show (numV .i64 (shArgs 1)).toArray = #[.int .i64 7] from rfl) ▸ blk_new2 w _ 3 #[.int .i64 7], ((Below.refl _ _).alloc (Nat.le_refl _) _).alloc (by simp) _⟩
set_option maxHeartbeats 1000000 in
set_option maxRecDepth 100000 in
theorem shape_2 (w : World) : Calls Tryz.prog 81 #[.int .i64 2] w fun e w' => ShR e w w' 2 := by
  go_enter Tryz.func81, Tryz.ntmps81
  go_wp2
  exact bodyPost_ret (v := .agg #[.slice (some ⟨w.heap.size + 1, 0, none⟩) 1 1, .int .i64 7, .bool true]) (by simp [results, Tryz.results81, go_sem]) rfl ⟨rfl, (show (numV .i64 (shArgs 2)).toArray = #[.int .i64 7] from rfl) ▸ blk_new2 w _ 3 #[.int .i64 7], ((Below.refl _ _).alloc (Nat.le_refl _) _).alloc (by simp) _⟩
set_option maxHeartbeats 1000000 in
set_option maxRecDepth 100000 in
theorem shape_3 (w : World) : Calls Tryz.prog 81 #[.int .i64 3] w fun e w' => ShR e w w' 3 := by
  go_enter Tryz.func81, Tryz.ntmps81
  go_wp2
  exact bodyPost_ret (v := .agg #[.slice (some ⟨w.heap.size + 1, 0, none⟩) 1 1, .int .i64 7, .bool true]) (by simp [results, Tryz.results81, go_sem]) rfl ⟨rfl, (show (numV .i64 (shArgs 3)).toArray = #[.int .i64 7] from rfl) ▸ blk_new2 w _ 3 #[.int .i64 7], ((Below.refl _ _).alloc (Nat.le_refl _) _).alloc (by simp) _⟩
set_option maxHeartbeats 1000000 in
set_option maxRecDepth 100000 in
theorem shape_4 (w : World) : Calls Tryz.prog 81 #[.int .i64 4] w fun e w' => ShR e w w' 4 := by
  go_enter Tryz.func81, Tryz.ntmps81
  go_wp2
  exact bodyPost_ret (v := .agg #[.slice (some ⟨w.heap.size + 1, 0, none⟩) 2 2, .int .i64 7, .bool false]) (by simp [results, Tryz.results81, go_sem]) rfl ⟨rfl, (show (numV .i64 (shArgs 4)).toArray = #[.int .i64 (-1), .int .i64 (-1)] from rfl) ▸ blk_new2 w _ 3 #[.int .i64 (-1), .int .i64 (-1)], ((Below.refl _ _).alloc (Nat.le_refl _) _).alloc (by simp) _⟩
set_option maxHeartbeats 1000000 in
set_option maxRecDepth 100000 in
theorem shape_5 (w : World) : Calls Tryz.prog 81 #[.int .i64 5] w fun e w' => ShR e w w' 5 := by
  go_enter Tryz.func81, Tryz.ntmps81
  go_wp2
  exact bodyPost_ret (v := .agg #[.slice (some ⟨w.heap.size + 1, 0, none⟩) 2 2, .int .i64 7, .bool false]) (by simp [results, Tryz.results81, go_sem]) rfl ⟨rfl, (show (numV .i64 (shArgs 5)).toArray = #[.int .i64 (-1), .int .i64 (-1)] from rfl) ▸ blk_new2 w _ 3 #[.int .i64 (-1), .int .i64 (-1)], ((Below.refl _ _).alloc (Nat.le_refl _) _).alloc (by simp) _⟩
set_option maxHeartbeats 1000000 in
set_option maxRecDepth 100000 in
theorem shape_6 (w : World) : Calls Tryz.prog 81 #[.int .i64 6] w fun e w' => ShR e w w' 6 := by
  go_enter Tryz.func81, Tryz.ntmps81
  go_wp2
  exact bodyPost_ret (v := .agg #[.slice (some ⟨w.heap.size + 1, 0, none⟩) 2 2, .int .i64 7, .bool false]) (by simp [results, Tryz.results81, go_sem]) rfl ⟨rfl, (show (numV .i64 (shArgs 6)).toArray = #[.int .i64 (-2), .int .i64 (-2)] from rfl) ▸ blk_new2 w _ 3 #[.int .i64 (-2), .int .i64 (-2)], ((Below.refl _ _).alloc (Nat.le_refl _) _).alloc (by simp) _⟩
set_option maxHeartbeats 1000000 in
set_option maxRecDepth 100000 in
theorem shape_7 (w : World) : Calls Tryz.prog 81 #[.int .i64 7] w fun e w' => ShR e w w' 7 := by
  go_enter Tryz.func81, Tryz.ntmps81
  go_wp2
  exact bodyPost_ret (v := .agg #[.slice (some ⟨w.heap.size + 1, 0, none⟩) 2 2, .int .i64 7, .bool false]) (by simp [results, Tryz.results81, go_sem]) rfl ⟨rfl, (show (numV .i64 (shArgs 7)).toArray = #[.int .i64 (-2), .int .i64 (-2)] from rfl) ▸ blk_new2 w _ 3 #[.int .i64 (-2), .int .i64 (-2)], ((Below.refl _ _).alloc (Nat.le_refl _) _).alloc (by simp) _⟩
set_option maxHeartbeats 1000000 in
set_option maxRecDepth 100000 in
theorem shape_8 (w : World) : Calls Tryz.prog 81 #[.int .i64 8] w fun e w' => ShR e w w' 8 := by
  go_enter Tryz.func81, Tryz.ntmps81
  go_wp2
  exact bodyPost_ret (v := .agg #[.slice (some ⟨w.heap.size + 1, 0, none⟩) 2 2, .int .i64 7, .bool false]) (by simp [results, Tryz.results81, go_sem]) rfl ⟨rfl, (show (numV .i64 (shArgs 8)).toArray = #[.int .i64 (-2), .int .i64 (-2)] from rfl) ▸ blk_new2 w _ 3 #[.int .i64 (-2), .int .i64 (-2)], ((Below.refl _ _).alloc (Nat.le_refl _) _).alloc (by simp) _⟩
set_option maxHeartbeats 1000000 in
set_option maxRecDepth 100000 in
theorem shape_9 (w : World) : Calls Tryz.prog 81 #[.int .i64 9] w fun e w' => ShR e w w' 9 := by
  go_enter Tryz.func81, Tryz.ntmps81
  go_wp2
  exact bodyPost_ret (v := .agg #[.slice (some ⟨w.heap.size + 1, 0, none⟩) 2 2, .int .i64 7, .bool false]) (by simp [results, Tryz.results81, go_sem]) rfl ⟨rfl, (show (numV .i64 (shArgs 9)).toArray = #[.int .i64 (-2), .int .i64 (-2)] from rfl) ▸ blk_new2 w _ 3 #[.int .i64 (-2), .int .i64 (-2)], ((Below.refl _ _).alloc (Nat.le_refl _) _).alloc (by simp) _⟩
set_option maxHeartbeats 1000000 in
set_option maxRecDepth 100000 in
theorem shape_10 (w : World) : Calls Tryz.prog 81 #[.int .i64 10] w fun e w' => ShR e w w' 10 := by
  go_enter Tryz.func81, Tryz.ntmps81
  go_wp2
  exact bodyPost_ret (v := .agg #[.slice (some ⟨w.heap.size + 1, 0, none⟩) 2 2, .int .i64 7, .bool false]) (by simp [results, Tryz.results81, go_sem]) rfl ⟨rfl, (show (numV .i64 (shArgs 10)).toArray = #[.int .i64 4, .int .i64 5] from rfl) ▸ blk_new2 w _ 3 #[.int .i64 4, .int .i64 5], ((Below.refl _ _).alloc (Nat.le_refl _) _).alloc (by simp) _⟩
set_option maxHeartbeats 1000000 in
set_option maxRecDepth 100000 in
theorem shape_11 (w : World) : Calls Tryz.prog 81 #[.int .i64 11] w fun e w' => ShR e w w' 11 := by
  go_enter Tryz.func81, Tryz.ntmps81
  go_wp2
  exact bodyPost_ret (v := .agg #[.slice (some ⟨w.heap.size + 1, 0, none⟩) 2 2, .int .i64 7, .bool false]) (by simp [results, Tryz.results81, go_sem]) rfl ⟨rfl, (show (numV .i64 (shArgs 11)).toArray = #[.int .i64 5, .int .i64 4] from rfl) ▸ blk_new2 w _ 3 #[.int .i64 5, .int .i64 4], ((Below.refl _ _).alloc (Nat.le_refl _) _).alloc (by simp) _⟩
set_option maxHeartbeats 1000000 in
set_option maxRecDepth 100000 in
theorem shape_12 (w : World) : Calls Tryz.prog 81 #[.int .i64 12] w fun e w' => ShR e w w' 12 := by
  go_enter Tryz.func81, Tryz.ntmps81
  go_wp2
  exact bodyPost_ret (v := .agg #[.slice (some ⟨w.heap.size + 1, 0, none⟩) 1 1, .int .i64 7, .bool false]) (by simp [results, Tryz.results81, go_sem]) rfl ⟨rfl, (show (numV .i64 (shArgs 12)).toArray = #[.int .i64 (-1)] from rfl) ▸ blk_new2 w _ 3 #[.int .i64 (-1)], ((Below.refl _ _).alloc (Nat.le_refl _) _).alloc (by simp) _⟩
set_option maxHeartbeats 1000000 in
set_option maxRecDepth 100000 in
theorem shape_13 (w : World) : Calls Tryz.prog 81 #[.int .i64 13] w fun e w' => ShR e w w' 13 := by
  go_enter Tryz.func81, Tryz.ntmps81
  go_wp2
  exact bodyPost_ret (v := .agg #[.slice (some ⟨w.heap.size + 1, 0, none⟩) 1 1, .int .i64 7, .bool false]) (by simp [results, Tryz.results81, go_sem]) rfl ⟨rfl, (show (numV .i64 (shArgs 13)).toArray = #[.int .i64 (-1)] from rfl) ▸ blk_new2 w _ 3 #[.int .i64 (-1)], ((Below.refl _ _).alloc (Nat.le_refl _) _).alloc (by simp) _⟩
set_option maxHeartbeats 1000000 in
set_option maxRecDepth 100000 in
theorem shape_14 (w : World) : Calls Tryz.prog 81 #[.int .i64 14] w fun e w' => ShR e w w' 14 := by
  go_enter Tryz.func81, Tryz.ntmps81
  go_wp2
  exact bodyPost_ret (v := .agg #[.slice (some ⟨w.heap.size + 1, 0, none⟩) 1 1, .int .i64 2, .bool false]) (by simp [results, Tryz.results81, go_sem]) rfl ⟨rfl, (show (numV .i64 (shArgs 14)).toArray = #[.int .i64 (-1)] from rfl) ▸ blk_new2 w _ 3 #[.int .i64 (-1)], ((Below.refl _ _).alloc (Nat.le_refl _) _).alloc (by simp) _⟩
set_option maxHeartbeats 1000000 in
set_option maxRecDepth 100000 in
theorem shape_15 (w : World) : Calls Tryz.prog 81 #[.int .i64 15] w fun e w' => ShR e w w' 15 := by
  go_enter Tryz.func81, Tryz.ntmps81
  go_wp2
  exact bodyPost_ret (v := .agg #[.slice (some ⟨w.heap.size + 1, 0, none⟩) 2 2, .int .i64 2, .bool false]) (by simp [results, Tryz.results81, go_sem]) rfl ⟨rfl, (show (numV .i64 (shArgs 15)).toArray = #[.int .i64 2, .int .i64 2] from rfl) ▸ blk_new2 w _ 3 #[.int .i64 2, .int .i64 2], ((Below.refl _ _).alloc (Nat.le_refl _) _).alloc (by simp) _⟩
set_option maxHeartbeats 1000000 in
set_option maxRecDepth 100000 in
theorem shape_16 (w : World) : Calls Tryz.prog 81 #[.int .i64 16] w fun e w' => ShR e w w' 16 := by
  go_enter Tryz.func81, Tryz.ntmps81
  go_wp2
  exact bodyPost_ret (v := .agg #[.slice (some ⟨w.heap.size + 1, 0, none⟩) 2 2, .int .i64 2, .bool false]) (by simp [results, Tryz.results81, go_sem]) rfl ⟨rfl, (show (numV .i64 (shArgs 16)).toArray = #[.int .i64 2, .int .i64 2] from rfl) ▸ blk_new2 w _ 3 #[.int .i64 2, .int .i64 2], ((Below.refl _ _).alloc (Nat.le_refl _) _).alloc (by simp) _⟩
set_option maxHeartbeats 1000000 in
set_option maxRecDepth 100000 in
theorem shape_17 (w : World) : Calls Tryz.prog 81 #[.int .i64 17] w fun e w' => ShR e w w' 17 := by
  go_enter Tryz.func81, Tryz.ntmps81
  go_wp2
  exact bodyPost_ret (v := .agg #[.slice (some ⟨w.heap.size + 1, 0, none⟩) 2 2, .int .i64 2, .bool false]) (by simp [results, Tryz.results81, go_sem]) rfl ⟨rfl, (show (numV .i64 (shArgs 17)).toArray = #[.int .i64 2, .int .i64 2] from rfl) ▸ blk_new2 w _ 3 #[.int .i64 2, .int .i64 2], ((Below.refl _ _).alloc (Nat.le_refl _) _).alloc (by simp) _⟩
set_option maxHeartbeats 1000000 in
set_option maxRecDepth 100000 in
theorem shape_18 (w : World) : Calls Tryz.prog 81 #[.int .i64 18] w fun e w' => ShR e w w' 18 := by
  go_enter Tryz.func81, Tryz.ntmps81
  go_wp2
  exact bodyPost_ret (v := .agg #[.slice (some ⟨w.heap.size + 1, 0, none⟩) 2 2, .int .i64 2, .bool false]) (by simp [results, Tryz.results81, go_sem]) rfl ⟨rfl, (show (numV .i64 (shArgs 18)).toArray = #[.int .i64 2, .int .i64 2] from rfl) ▸ blk_new2 w _ 3 #[.int .i64 2, .int .i64 2], ((Below.refl _ _).alloc (Nat.le_refl _) _).alloc (by simp) _⟩
set_option maxHeartbeats 1000000 in
set_option maxRecDepth 100000 in
theorem shape_19 (w : World) : Calls Tryz.prog 81 #[.int .i64 19] w fun e w' => ShR e w w' 19 := by
  go_enter Tryz.func81, Tryz.ntmps81
  go_wp2
  exact bodyPost_ret (v := .agg #[.slice (some ⟨w.heap.size + 1, 0, none⟩) 2 2, .int .i64 2, .bool false]) (by simp [results, Tryz.results81, go_sem]) rfl ⟨rfl, (show (numV .i64 (shArgs 19)).toArray = #[.int .i64 2, .int .i64 2] from rfl) ▸ blk_new2 w _ 3 #[.int .i64 2, .int .i64 2], ((Below.refl _ _).alloc (Nat.le_refl _) _).alloc (by simp) _⟩
set_option maxHeartbeats 1000000 in
set_option maxRecDepth 100000 in
theorem shape_20 (w : World) : Calls Tryz.prog 81 #[.int .i64 20] w fun e w' => ShR e w w' 20 := by
  go_enter Tryz.func81, Tryz.ntmps81
  go_wp2
  exact bodyPost_ret (v := .agg #[.slice (some ⟨w.heap.size + 1, 0, none⟩) 1 1, .int .i64 2, .bool false]) (by simp [results, Tryz.results81, go_sem]) rfl ⟨rfl, (show (numV .i64 (shArgs 20)).toArray = #[.int .i64 2] from rfl) ▸ blk_new2 w _ 3 #[.int .i64 2], ((Below.refl _ _).alloc (Nat.le_refl _) _).alloc (by simp) _⟩
set_option maxHeartbeats 1000000 in
set_option maxRecDepth 100000 in
theorem shape_21 (w : World) : Calls Tryz.prog 81 #[.int .i64 21] w fun e w' => ShR e w w' 21 := by
  go_enter Tryz.func81, Tryz.ntmps81
  go_wp2
  exact bodyPost_ret (v := .agg #[.slice (some ⟨w.heap.size + 1, 0, none⟩) 1 1, .int .i64 2, .bool false]) (by simp [results, Tryz.results81, go_sem]) rfl ⟨rfl, (show (numV .i64 (shArgs 21)).toArray = #[.int .i64 2] from rfl) ▸ blk_new2 w _ 3 #[.int .i64 2], ((Below.refl _ _).alloc (Nat.le_refl _) _).alloc (by simp) _⟩
set_option maxHeartbeats 1000000 in
set_option maxRecDepth 100000 in
theorem shape_22 (w : World) : Calls Tryz.prog 81 #[.int .i64 22] w fun e w' => ShR e w w' 22 := by
  go_enter Tryz.func81, Tryz.ntmps81
  go_wp2
  exact bodyPost_ret (v := .agg #[.slice (some ⟨w.heap.size + 1, 0, none⟩) 1 1, .int .i64 2, .bool false]) (by simp [results, Tryz.results81, go_sem]) rfl ⟨rfl, (show (numV .i64 (shArgs 22)).toArray = #[.int .i64 2] from rfl) ▸ blk_new2 w _ 3 #[.int .i64 2], ((Below.refl _ _).alloc (Nat.le_refl _) _).alloc (by simp) _⟩
set_option maxHeartbeats 1000000 in
set_option maxRecDepth 100000 in
theorem shape_23 (w : World) : Calls Tryz.prog 81 #[.int .i64 23] w fun e w' => ShR e w w' 23 := by
  go_enter Tryz.func81, Tryz.ntmps81
  go_wp2
  exact bodyPost_ret (v := .agg #[.slice (some ⟨w.heap.size + 1, 0, none⟩) 1 1, .int .i64 2, .bool false]) (by simp [results, Tryz.results81, go_sem]) rfl ⟨rfl, (show (numV .i64 (shArgs 23)).toArray = #[.int .i64 2] from rfl) ▸ blk_new2 w _ 3 #[.int .i64 2], ((Below.refl _ _).alloc (Nat.le_refl _) _).alloc (by simp) _⟩
set_option maxHeartbeats 1000000 in
set_option maxRecDepth 100000 in
theorem shape_24 (w : World) : Calls Tryz.prog 81 #[.int .i64 24] w fun e w' => ShR e w w' 24 := by
  go_enter Tryz.func81, Tryz.ntmps81
  go_wp2
  exact bodyPost_ret (v := .agg #[.slice (some ⟨w.heap.size + 1, 0, none⟩) 1 1, .int .i64 (-2), .bool true]) (by simp [results, Tryz.results81, go_sem]) rfl ⟨rfl, (show (numV .i64 (shArgs 24)).toArray = #[.int .i64 (-2)] from rfl) ▸ blk_new2 w _ 3 #[.int .i64 (-2)], ((Below.refl _ _).alloc (Nat.le_refl _) _).alloc (by simp) _⟩
set_option maxHeartbeats 1000000 in
set_option maxRecDepth 100000 in
theorem shape_25 (w : World) : Calls Tryz.prog 81 #[.int .i64 25] w fun e w' => ShR e w w' 25 := by
  go_enter Tryz.func81, Tryz.ntmps81
  go_wp2
  exact bodyPost_ret (v := .agg #[.slice (some ⟨w.heap.size + 1, 0, none⟩) 1 1, .int .i64 (-2), .bool true]) (by simp [results, Tryz.results81, go_sem]) rfl ⟨rfl, (show (numV .i64 (shArgs 25)).toArray = #[.int .i64 (-2)] from rfl) ▸ blk_new2 w _ 3 #[.int .i64 (-2)], ((Below.refl _ _).alloc (Nat.le_refl _) _).alloc (by simp) _⟩
set_option maxHeartbeats 1000000 in
set_option maxRecDepth 100000 in
theorem shape_26 (w : World) : Calls Tryz.prog 81 #[.int .i64 26] w fun e w' => ShR e w w' 26 := by
  go_enter Tryz.func81, Tryz.ntmps81
  go_wp2
  exact bodyPost_ret (v := .agg #[.slice (some ⟨w.heap.size + 1, 0, none⟩) 3 3, .int .i64 (-1), .bool false]) (by simp [results, Tryz.results81, go_sem]) rfl ⟨rfl, (show (numV .i64 (shArgs 26)).toArray = #[.int .i64 7, .int .i64 (-1), .int .i64 (-1)] from rfl) ▸ blk_new2 w _ 3 #[.int .i64 7, .int .i64 (-1), .int .i64 (-1)], ((Below.refl _ _).alloc (Nat.le_refl _) _).alloc (by simp) _⟩
set_option maxHeartbeats 1000000 in
set_option maxRecDepth 100000 in
theorem shape_27 (w : World) : Calls Tryz.prog 81 #[.int .i64 27] w fun e w' => ShR e w w' 27 := by
  go_enter Tryz.func81, Tryz.ntmps81
  go_wp2
  exact bodyPost_ret (v := .agg #[.slice (some ⟨w.heap.size + 1, 0, none⟩) 2 2, .int .i64 (-1), .bool false]) (by simp [results, Tryz.results81, go_sem]) rfl ⟨rfl, (show (numV .i64 (shArgs 27)).toArray = #[.int .i64 (-1), .int .i64 (-1)] from rfl) ▸ blk_new2 w _ 3 #[.int .i64 (-1), .int .i64 (-1)], ((Below.refl _ _).alloc (Nat.le_refl _) _).alloc (by simp) _⟩
set_option maxHeartbeats 1000000 in
set_option maxRecDepth 100000 in
theorem shape_28 (w : World) : Calls Tryz.prog 81 #[.int .i64 28] w fun e w' => ShR e w w' 28 := by
  go_enter Tryz.func81, Tryz.ntmps81
  go_wp2
  exact bodyPost_ret (v := .agg #[.slice (some ⟨w.heap.size + 1, 0, none⟩) 1 1, .int .i64 2, .bool false]) (by simp [results, Tryz.results81, go_sem]) rfl ⟨rfl, (show (numV .i64 (shArgs 28)).toArray = #[.int .i64 (-3)] from rfl) ▸ blk_new2 w _ 3 #[.int .i64 (-3)], ((Below.refl _ _).alloc (Nat.le_refl _) _).alloc (by simp) _⟩
set_option maxHeartbeats 1000000 in
set_option maxRecDepth 100000 in
theorem shape_29 (w : World) : Calls Tryz.prog 81 #[.int .i64 29] w fun e w' => ShR e w w' 29 := by
  go_enter Tryz.func81, Tryz.ntmps81
  go_wp2
  exact bodyPost_ret (v := .agg #[.slice (some ⟨w.heap.size + 1, 0, none⟩) 1 1, .int .i64 2, .bool false]) (by simp [results, Tryz.results81, go_sem]) rfl ⟨rfl, (show (numV .i64 (shArgs 29)).toArray = #[.int .i64 4] from rfl) ▸ blk_new2 w _ 3 #[.int .i64 4], ((Below.refl _ _).alloc (Nat.le_refl _) _).alloc (by simp) _⟩
set_option maxHeartbeats 1000000 in
set_option maxRecDepth 100000 in
theorem shape_30 (w : World) : Calls Tryz.prog 81 #[.int .i64 30] w fun e w' => ShR e w w' 30 := by
  go_enter Tryz.func81, Tryz.ntmps81
  go_wp2
  exact bodyPost_ret (v := .agg #[.slice (some ⟨w.heap.size + 1, 0, none⟩) 1 1, .int .i64 3, .bool false]) (by simp [results, Tryz.results81, go_sem]) rfl ⟨rfl, (show (numV .i64 (shArgs 30)).toArray = #[.int .i64 3] from rfl) ▸ blk_new2 w _ 3 #[.int .i64 3], ((Below.refl _ _).alloc (Nat.le_refl _) _).alloc (by simp) _⟩
set_option maxHeartbeats 1000000 in
set_option maxRecDepth 100000 in
theorem shape_31 (w : World) : Calls Tryz.prog 81 #[.int .i64 31] w fun e w' => ShR e w w' 31 := by
  go_enter Tryz.func81, Tryz.ntmps81
  go_wp2
  exact bodyPost_ret (v := .agg #[.slice (some ⟨w.heap.size + 1, 0, none⟩) 2 2, .int .i64 3, .bool false]) (by simp [results, Tryz.results81, go_sem]) rfl ⟨rfl, (show (numV .i64 (shArgs 31)).toArray = #[.int .i64 3, .int .i64 3] from rfl) ▸ blk_new2 w _ 3 #[.int .i64 3, .int .i64 3], ((Below.refl _ _).alloc (Nat.le_refl _) _).alloc (by simp) _⟩
set_option maxHeartbeats 1000000 in
set_option maxRecDepth 100000 in
theorem shape_32 (w : World) : Calls Tryz.prog 81 #[.int .i64 32] w fun e w' => ShR e w w' 32 := by
  go_enter Tryz.func81, Tryz.ntmps81
  go_wp2
  exact bodyPost_ret (v := .agg #[.slice (some ⟨w.heap.size + 1, 0, none⟩) 2 2, .int .i64 7, .bool false]) (by simp [results, Tryz.results81, go_sem]) rfl ⟨rfl, (show (numV .i64 (shArgs 32)).toArray = #[.int .i64 3, .int .i64 3] from rfl) ▸ blk_new2 w _ 3 #[.int .i64 3, .int .i64 3], ((Below.refl _ _).alloc (Nat.le_refl _) _).alloc (by simp) _⟩
set_option maxHeartbeats 1000000 in
set_option maxRecDepth 100000 in
theorem shape_33 (w : World) : Calls Tryz.prog 81 #[.int .i64 33] w fun e w' => ShR e w w' 33 := by
  go_enter Tryz.func81, Tryz.ntmps81
  go_wp2
  exact bodyPost_ret (v := .agg #[.slice (some ⟨w.heap.size + 1, 0, none⟩) 2 2, .int .i64 7, .bool false]) (by simp [results, Tryz.results81, go_sem]) rfl ⟨rfl, (show (numV .i64 (shArgs 33)).toArray = #[.int .i64 3, .int .i64 3] from rfl) ▸ blk_new2 w _ 3 #[.int .i64 3, .int .i64 3], ((Below.refl _ _).alloc (Nat.le_refl _) _).alloc (by simp) _⟩
set_option maxHeartbeats 1000000 in
set_option maxRecDepth 100000 in
theorem shape_34 (w : World) : Calls Tryz.prog 81 #[.int .i64 34] w fun e w' => ShR e w w' 34 := by
  go_enter Tryz.func81, Tryz.ntmps81
  go_wp2
  exact bodyPost_ret (v := .agg #[.slice (some ⟨w.heap.size + 1, 0, none⟩) 1 1, .int .i64 2, .bool false]) (by simp [results, Tryz.results81, go_sem]) rfl ⟨rfl, (show (numV .i64 (shArgs 34)).toArray = #[.int .i64 6] from rfl) ▸ blk_new2 w _ 3 #[.int .i64 6], ((Below.refl _ _).alloc (Nat.le_refl _) _).alloc (by simp) _⟩
set_option maxHeartbeats 1000000 in
set_option maxRecDepth 100000 in
theorem shape_35 (w : World) : Calls Tryz.prog 81 #[.int .i64 35] w fun e w' => ShR e w w' 35 := by
  go_enter Tryz.func81, Tryz.ntmps81
  go_wp2
  exact bodyPost_ret (v := .agg #[.slice (some ⟨w.heap.size + 1, 0, none⟩) 1 1, .int .i64 2, .bool false]) (by simp [results, Tryz.results81, go_sem]) rfl ⟨rfl, (show (numV .i64 (shArgs 35)).toArray = #[.int .i64 6] from rfl) ▸ blk_new2 w _ 3 #[.int .i64 6], ((Below.refl _ _).alloc (Nat.le_refl _) _).alloc (by simp) _⟩
set_option maxHeartbeats 1000000 in
set_option maxRecDepth 100000 in
theorem shape_36 (w : World) : Calls Tryz.prog 81 #[.int .i64 36] w fun e w' => ShR e w w' 36 := by
  go_enter Tryz.func81, Tryz.ntmps81
  go_wp2
  exact bodyPost_ret (v := .agg #[.slice (some ⟨w.heap.size + 1, 0, none⟩) 1 1, .int .i64 2, .bool false]) (by simp [results, Tryz.results81, go_sem]) rfl ⟨rfl, (show (numV .i64 (shArgs 36)).toArray = #[.int .i64 6] from rfl) ▸ blk_new2 w _ 3 #[.int .i64 6], ((Below.refl _ _).alloc (Nat.le_refl _) _).alloc (by simp) _⟩
set_option maxHeartbeats 1000000 in
set_option maxRecDepth 100000 in
theorem shape_37 (w : World) : Calls Tryz.prog 81 #[.int .i64 37] w fun e w' => ShR e w w' 37 := by
  go_enter Tryz.func81, Tryz.ntmps81
  go_wp2
  exact bodyPost_ret (v := .agg #[.slice (some ⟨w.heap.size + 1, 0, none⟩) 2 2, .int .i64 2, .bool false]) (by simp [results, Tryz.results81, go_sem]) rfl ⟨rfl, (show (numV .i64 (shArgs 37)).toArray = #[.int .i64 6, .int .i64 6] from rfl) ▸ blk_new2 w _ 3 #[.int .i64 6, .int .i64 6], ((Below.refl _ _).alloc (Nat.le_refl _) _).alloc (by simp) _⟩
set_option maxHeartbeats 1000000 in
set_option maxRecDepth 100000 in
theorem shape_38 (w : World) : Calls Tryz.prog 81 #[.int .i64 38] w fun e w' => ShR e w w' 38 := by
  go_enter Tryz.func81, Tryz.ntmps81
  go_wp2
  exact bodyPost_ret (v := .agg #[.slice (some ⟨w.heap.size + 1, 0, none⟩) 2 2, .int .i64 2, .bool false]) (by simp [results, Tryz.results81, go_sem]) rfl ⟨rfl, (show (numV .i64 (shArgs 38)).toArray = #[.int .i64 6, .int .i64 6] from rfl) ▸ blk_new2 w _ 3 #[.int .i64 6, .int .i64 6], ((Below.refl _ _).alloc (Nat.le_refl _) _).alloc (by simp) _⟩
set_option maxHeartbeats 1000000 in
set_option maxRecDepth 100000 in
theorem shape_39 (w : World) : Calls Tryz.prog 81 #[.int .i64 39] w fun e w' => ShR e w w' 39 := by
  go_enter Tryz.func81, Tryz.ntmps81
  go_wp2
  exact bodyPost_ret (v := .agg #[.slice (some ⟨w.heap.size + 1, 0, none⟩) 2 2, .int .i64 6, .bool false]) (by simp [results, Tryz.results81, go_sem]) rfl ⟨rfl, (show (numV .i64 (shArgs 39)).toArray = #[.int .i64 6, .int .i64 2] from rfl) ▸ blk_new2 w _ 3 #[.int .i64 6, .int .i64 2], ((Below.refl _ _).alloc (Nat.le_refl _) _).alloc (by simp) _⟩
theorem shapeOf_any (op : Int) (w : World) (h1 : 1 ≤ op) (h2 : op ≤ 39) : Calls Tryz.prog 81 #[.int .i64 op] w fun e w' => ShR e w w' op := by
  obtain rfl | rfl | rfl | rfl | rfl | rfl | rfl | rfl | rfl | rfl | rfl | rfl | rfl | rfl | rfl | rfl | rfl | rfl | rfl | rfl | rfl | rfl | rfl | rfl | rfl | rfl | rfl | rfl | rfl | rfl | rfl | rfl | rfl | rfl | rfl | rfl | rfl | rfl | rfl : op = 1 ∨ op = 2 ∨ op = 3 ∨ op = 4 ∨ op = 5 ∨ op = 6 ∨ op = 7 ∨ op = 8 ∨ op = 9 ∨ op = 10 ∨ op = 11 ∨ op = 12 ∨ op = 13 ∨ op = 14 ∨ op = 15 ∨ op = 16 ∨ op = 17 ∨ op = 18 ∨ op = 19 ∨ op = 20 ∨ op = 21 ∨ op = 22 ∨ op = 23 ∨ op = 24 ∨ op = 25 ∨ op = 26 ∨ op = 27 ∨ op = 28 ∨ op = 29 ∨ op = 30 ∨ op = 31 ∨ op = 32 ∨ op = 33 ∨ op = 34 ∨ op = 35 ∨ op = 36 ∨ op = 37 ∨ op = 38 ∨ op = 39 := by omega
  · exact shape_1 w
  · exact shape_2 w
  · exact shape_3 w
  · exact shape_4 w
  · exact shape_5 w
  · exact shape_6 w
  · exact shape_7 w
  · exact shape_8 w
  · exact shape_9 w
  · exact shape_10 w
  · exact shape_11 w
  · exact shape_12 w
  · exact shape_13 w
  · exact shape_14 w
  · exact shape_15 w
  · exact shape_16 w
  · exact shape_17 w
  · exact shape_18 w
  · exact shape_19 w
  · exact shape_20 w
  · exact shape_21 w
  · exact shape_22 w
  · exact shape_23 w
  · exact shape_24 w
  · exact shape_25 w
  · exact shape_26 w
  · exact shape_27 w
  · exact shape_28 w
  · exact shape_29 w
  · exact shape_30 w
  · exact shape_31 w
  · exact shape_32 w
  · exact shape_33 w
  · exact shape_34 w
  · exact shape_35 w
  · exact shape_36 w
  · exact shape_37 w
  · exact shape_38 w
  · exact shape_39 w
def rarB (op : Int) (n : Nat) : Bool := if shMore op then decide (2 ≤ n) else decide (n = (shArgs op).length)
theorem rar_eq (op : Int) (n : Nat) (h1 : 1 ≤ op) (h2 : op ≤ 39) (hn : n ≤ 1099511627776) : rarB op n = !outB n ((arOf op).1 : Nat) ((arOf op).2 : Nat) := by
  obtain rfl | rfl | rfl | rfl | rfl | rfl | rfl | rfl | rfl | rfl | rfl | rfl | rfl | rfl | rfl | rfl | rfl | rfl | rfl | rfl | rfl | rfl | rfl | rfl | rfl | rfl | rfl | rfl | rfl | rfl | rfl | rfl | rfl | rfl | rfl | rfl | rfl | rfl | rfl : op = 1 ∨ op = 2 ∨ op = 3 ∨ op = 4 ∨ op = 5 ∨ op = 6 ∨ op = 7 ∨ op = 8 ∨ op = 9 ∨ op = 10 ∨ op = 11 ∨ op = 12 ∨ op = 13 ∨ op = 14 ∨ op = 15 ∨ op = 16 ∨ op = 17 ∨ op = 18 ∨ op = 19 ∨ op = 20 ∨ op = 21 ∨ op = 22 ∨ op = 23 ∨ op = 24 ∨ op = 25 ∨ op = 26 ∨ op = 27 ∨ op = 28 ∨ op = 29 ∨ op = 30 ∨ op = 31 ∨ op = 32 ∨ op = 33 ∨ op = 34 ∨ op = 35 ∨ op = 36 ∨ op = 37 ∨ op = 38 ∨ op = 39 := by omega
  all_goals
    simp only [rarB, shMore, shArgs, arOf, outB]
    rw [Bool.eq_iff_iff]
    simp
    try omega
set_option maxHeartbeats 1000000 in
set_option maxRecDepth 100000 in
theorem rarity_any (op : Int) (n : Nat) (w : World) (h1 : 1 ≤ op) (h2 : op ≤ 39) (hn : n ≤ maxLen) :
    Calls Tryz.prog 110 #[.int .i64 op, .int .i64 n] w fun e w' => e = .returned (.bool (rarB op n)) ∧ Below w.heap.size w w' := by
  have hne : (shArgs op).length ≤ 3 := by
    obtain rfl | rfl | rfl | rfl | rfl | rfl | rfl | rfl | rfl | rfl | rfl | rfl | rfl | rfl | rfl | rfl | rfl | rfl | rfl | rfl | rfl | rfl | rfl | rfl | rfl | rfl | rfl | rfl | rfl | rfl | rfl | rfl | rfl | rfl | rfl | rfl | rfl | rfl | rfl : op = 1 ∨ op = 2 ∨ op = 3 ∨ op = 4 ∨ op = 5 ∨ op = 6 ∨ op = 7 ∨ op = 8 ∨ op = 9 ∨ op = 10 ∨ op = 11 ∨ op = 12 ∨ op = 13 ∨ op = 14 ∨ op = 15 ∨ op = 16 ∨ op = 17 ∨ op = 18 ∨ op = 19 ∨ op = 20 ∨ op = 21 ∨ op = 22 ∨ op = 23 ∨ op = 24 ∨ op = 25 ∨ op = 26 ∨ op = 27 ∨ op = 28 ∨ op = 29 ∨ op = 30 ∨ op = 31 ∨ op = 32 ∨ op = 33 ∨ op = 34 ∨ op = 35 ∨ op = 36 ∨ op = 37 ∨ op = 38 ∨ op = 39 := by omega
    all_goals decide
  obtain ⟨m, hm⟩ : ∃ m, shMore op = m := ⟨_, rfl⟩
  obtain ⟨L, hL⟩ : ∃ L, (shArgs op).length = L := ⟨_, rfl⟩
  have HM := Lib.hid hm
  have HL := Lib.hid hL
  rw [hL] at hne
  have HS := Lib.hid (fun w' => shapeOf_any op w' h1 h2)
  unfold maxLen at hn
  clear hm hL
  go_enter Tryz.func110, Tryz.ntmps110
  go_wp2_with fail
  refine (HS.out w).mono ?_
  rintro e w1 ⟨rfl, hB, hb⟩
  rw [HL.out, HM.out]
  clear hB
  cases m
  · have HR := Lib.hid (show rarB op n = decide (n = L) by unfold rarB; rw [HM.out, HL.out]; rfl)
    go_wp2
    go_ret
    exact ⟨ret_bool (by rw [HR.out, Bool.eq_iff_iff]; simp; try omega), hb.alloc hb.size _⟩
  · have HR := Lib.hid (show rarB op n = decide (2 ≤ n) by unfold rarB; rw [HM.out]; rfl)
    go_wp2
    go_ret
    exact ⟨ret_bool (by rw [HR.out, Bool.eq_iff_iff]; simp; try omega), hb.alloc hb.size _⟩
end Go.Proofs.YtcmccjcelchlhaaGreatDoor
namespace Go.Proofs.YtcmccjcelchlhaaGreatDoor
open Go.RowKit

theorem outB_k {k : Int} (h1 : 1 ≤ k) (h2 : k ≤ 5) : outB k 1 5 = false := outB_false h1 h2
theorem partB_out {k op : Int} {nm : ByteArray} {v : Val} {n : Nat} {hk : Int} (h : outB k 1 5 = true) : partB k op nm v n hk = 4 := by unfold partB; rw [if_pos h]
theorem partB_4o {op : Int} {nm : ByteArray} {v : Val} {n : Nat} {hk : Int} (h : outB op 1 39 = true) : partB 4 op nm v n hk = 4 := by unfold partB; rw [if_neg (by decide), if_pos ⟨rfl, h⟩]
theorem partB_5o {op : Int} {nm : ByteArray} {v : Val} {n : Nat} {hk : Int} (h : outB op 1 6 = true) : partB 5 op nm v n hk = 4 := by unfold partB; rw [if_neg (by decide), if_neg (by omega), if_pos ⟨rfl, h⟩]
theorem partB_x {k op : Int} {nm : ByteArray} {v : Val} {n : Nat} {hk : Int} (h1 : 1 ≤ k) (h2 : k ≤ 5) (h4 : k = 4 → outB op 1 39 = false) (h5 : k = 5 → outB op 1 6 = false) (h : extraB k op nm v n = true) : partB k op nm v n hk = 3 := by
  unfold partB
  rw [if_neg (by rw [outB_k h1 h2]; simp), if_neg (fun e => by rw [h4 e.1] at e; simp at e), if_neg (fun e => by rw [h5 e.1] at e; simp at e), if_pos h]
theorem partB_1 {op : Int} {nm : ByteArray} {v : Val} {n : Nat} {hk : Int} (h : extraB 1 op nm v n = false) : partB 1 op nm v n hk = if v.k = 0 ∨ v.k = 1 then 4 else checkV v := by
  unfold partB
  rw [if_neg (by decide), if_neg (by omega), if_neg (by omega), if_neg (by rw [h]; simp), if_pos rfl]
theorem partB_4 {op : Int} {nm : ByteArray} {v : Val} {n : Nat} {hk : Int} (h4 : outB op 1 39 = false) (h : extraB 4 op nm v n = false) : partB 4 op nm v n hk = if 12 ≤ op ∧ op ≤ 14 ∧ hk ≠ 2 then 3 else 0 := by
  unfold partB
  rw [if_neg (by decide), if_neg (by rw [h4]; simp), if_neg (by omega), if_neg (by rw [h]; simp), if_neg (by omega), if_pos rfl]
theorem partB_n {k op : Int} {nm : ByteArray} {v : Val} {n : Nat} {hk : Int} (hk2 : k = 2 ∨ k = 3 ∨ k = 5) (h5 : k = 5 → outB op 1 6 = false) (h : extraB k op nm v n = false) : partB k op nm v n hk = if isNameF nm.data.toList = true then 0 else 5 := by
  unfold partB
  rw [if_neg (by rw [outB_k (by omega) (by omega)]; simp), if_neg (by omega), if_neg (fun e => by rw [h5 e.1] at e; simp at e), if_neg (by rw [h]; simp), if_neg (by omega), if_neg (by omega)]
theorem arOf_ask {op : Int} (h : op = 12 ∨ op = 13 ∨ op = 14) : arOf op = (1, 1) := by rcases h with rfl | rfl | rfl <;> rfl
set_option maxHeartbeats 1000000 in
set_option maxRecDepth 100000 in
theorem partFault_out (k op : Int) (nm : ByteArray) (v : Val) (n : Nat) (hk : Int) (A : Option Addr) (c : Nat) (A' : Option Addr) (c' : Nat) (w : World) (ho : outB k 1 5 = true) :
    Calls Tryz.prog 69 #[.agg #[.int .i64 k, .int .i64 op, .string nm, .int .i64 v.k, .int .i64 v.n, .string v.s, .slice A v.l.length c, .slice A' n c']] w fun e w' => e = .returned (.int .i64 (partB k op nm v n hk)) ∧ Below w.heap.size w w' := by
  have HO := Lib.hid ho
  clear ho
  go_enter Tryz.func69, Tryz.ntmps69
  go_wp2_with fail
  obtain ⟨W, hW⟩ : ∃ W, W = (w.alloc (.cells #[.int .i64 k, .int .i64 op, .string nm, .int .i64 v.k, .int .i64 v.n, .string v.s, .slice A v.l.length c, .slice A' n c'] 27 (0, 0))) := ⟨_, rfl⟩
  have hbw : Below w.heap.size w W := by rw [hW]; exact ((Below.refl _ w).alloc (Nat.le_refl _) _)
  have B0 : Blk W (w.heap.size) 27 #[.int .i64 k, .int .i64 op, .string nm, .int .i64 v.k, .int .i64 v.n, .string v.s, .slice A v.l.length c, .slice A' n c'] := by
    rw [hW]
    have := Blk.new w 27 #[.int .i64 k, .int .i64 op, .string nm, .int .i64 v.k, .int .i64 v.n, .string v.s, .slice A v.l.length c, .slice A' n c']
    exact this
  have hsz : W.heap.size = w.heap.size + 1 := by rw [hW]; simp
  rw [← hW]
  clear hW hsz
  have rc0 : W.cell? ⟨w.heap.size, 0, none⟩ = some (.int .i64 k) := B0.cell 0
  have rc1 : W.cell? ⟨w.heap.size, 1, none⟩ = some (.int .i64 op) := B0.cell 1
  have rc2 : W.cell? ⟨w.heap.size, 2, none⟩ = some (.string nm) := B0.cell 2
  have rc3 : W.cell? ⟨w.heap.size, 3, none⟩ = some (.int .i64 v.k) := B0.cell 3
  have rc4 : W.cell? ⟨w.heap.size, 4, none⟩ = some (.int .i64 v.n) := B0.cell 4
  have rc5 : W.cell? ⟨w.heap.size, 5, none⟩ = some (.string v.s) := B0.cell 5
  have rc6 : W.cell? ⟨w.heap.size, 6, none⟩ = some (.slice A v.l.length c) := B0.cell 6
  have rc7 : W.cell? ⟨w.heap.size, 7, none⟩ = some (.slice A' n c') := B0.cell 7
  refine (outside_any _ _ _ W).mono ?_
  rw [HO.out]
  rintro e1 w1 ⟨rfl, rfl⟩
  go_wp2
  go_ret
  exact ⟨ret_int (by rw [partB_out HO.out]), hbw⟩
set_option maxHeartbeats 4000000 in
set_option maxRecDepth 100000 in
theorem partFault_1 (op : Int) (nm : ByteArray) (v : Val) (n : Nat) (hk : Int) (A : Option Addr) (c : Nat) (A' : Option Addr) (c' B : Nat) (w : World) (hnm : nm.size ≤ maxLen) (hvs : v.s.size ≤ maxLen) (hvl : v.l.length ≤ maxLen) (hn : n ≤ maxLen)
    (hx : Reads w B 1 A v.l.length (numV .i64 v.l)) (hB : B ≤ w.heap.size) (hA : 0 < n → ∃ ad, A' = some ad ∧ ad.block < B ∧ w.cell? ad = some (.int .i64 hk)) :
    Calls Tryz.prog 69 #[.agg #[.int .i64 1, .int .i64 op, .string nm, .int .i64 v.k, .int .i64 v.n, .string v.s, .slice A v.l.length c, .slice A' n c']] w fun e w' => e = .returned (.int .i64 (partB 1 op nm v n hk)) ∧ Below w.heap.size w w' := by
  have HX := Lib.hid (And.intro hx hB)
  have HA := Lib.hid hA
  have HNN := Lib.hid hn
  unfold maxLen at hn
  clear hx hB hA
  obtain ⟨x, hx0⟩ : ∃ x, extraB 1 op nm v n = x := ⟨_, rfl⟩
  have HXB := Lib.hid hx0
  have HEX := Lib.hid (fun w' => extra_any 1 op nm v n A c A' c' w' HNN.out (by omega) (by omega))
  clear hx0
  go_enter Tryz.func69, Tryz.ntmps69
  go_wp2_with fail
  obtain ⟨W, hW⟩ : ∃ W, W = (w.alloc (.cells #[.int .i64 1, .int .i64 op, .string nm, .int .i64 v.k, .int .i64 v.n, .string v.s, .slice A v.l.length c, .slice A' n c'] 27 (0, 0))) := ⟨_, rfl⟩
  have hbw : Below w.heap.size w W := by rw [hW]; exact ((Below.refl _ w).alloc (Nat.le_refl _) _)
  have B0 : Blk W (w.heap.size) 27 #[.int .i64 1, .int .i64 op, .string nm, .int .i64 v.k, .int .i64 v.n, .string v.s, .slice A v.l.length c, .slice A' n c'] := by
    rw [hW]
    have := Blk.new w 27 #[.int .i64 1, .int .i64 op, .string nm, .int .i64 v.k, .int .i64 v.n, .string v.s, .slice A v.l.length c, .slice A' n c']
    exact this
  have hsz : W.heap.size = w.heap.size + 1 := by rw [hW]; simp
  rw [← hW]
  clear hW hsz
  have rc0 : W.cell? ⟨w.heap.size, 0, none⟩ = some (.int .i64 1) := B0.cell 0
  have rc1 : W.cell? ⟨w.heap.size, 1, none⟩ = some (.int .i64 op) := B0.cell 1
  have rc2 : W.cell? ⟨w.heap.size, 2, none⟩ = some (.string nm) := B0.cell 2
  have rc3 : W.cell? ⟨w.heap.size, 3, none⟩ = some (.int .i64 v.k) := B0.cell 3
  have rc4 : W.cell? ⟨w.heap.size, 4, none⟩ = some (.int .i64 v.n) := B0.cell 4
  have rc5 : W.cell? ⟨w.heap.size, 5, none⟩ = some (.string v.s) := B0.cell 5
  have rc6 : W.cell? ⟨w.heap.size, 6, none⟩ = some (.slice A v.l.length c) := B0.cell 6
  have rc7 : W.cell? ⟨w.heap.size, 7, none⟩ = some (.slice A' n c') := B0.cell 7
  refine (outside_any _ _ _ W).mono ?_
  rw [outB_k (by omega) (by omega)]
  rintro e1 w1 ⟨rfl, rfl⟩
  go_wp2_with fail
  refine (HEX.out W).mono ?_
  rw [HXB.out]
  rintro e2 w2 ⟨rfl, hb2⟩
  have B0 := B0.below hb2 B0.lt
  have hbw := hbw.trans (hb2.mono hbw.size)
  clear hb2 rc0 rc1 rc2 rc3 rc4 rc5 rc6 rc7
  have rc0 : w2.cell? ⟨w.heap.size, 0, none⟩ = some (.int .i64 1) := B0.cell 0
  have rc1 : w2.cell? ⟨w.heap.size, 1, none⟩ = some (.int .i64 op) := B0.cell 1
  have rc2 : w2.cell? ⟨w.heap.size, 2, none⟩ = some (.string nm) := B0.cell 2
  have rc3 : w2.cell? ⟨w.heap.size, 3, none⟩ = some (.int .i64 v.k) := B0.cell 3
  have rc4 : w2.cell? ⟨w.heap.size, 4, none⟩ = some (.int .i64 v.n) := B0.cell 4
  have rc5 : w2.cell? ⟨w.heap.size, 5, none⟩ = some (.string v.s) := B0.cell 5
  have rc6 : w2.cell? ⟨w.heap.size, 6, none⟩ = some (.slice A v.l.length c) := B0.cell 6
  have rc7 : w2.cell? ⟨w.heap.size, 7, none⟩ = some (.slice A' n c') := B0.cell 7
  cases x
  rotate_left
  · go_wp2
    go_ret
    exact ⟨ret_int (by rw [partB_x (by omega) (by omega) (by omega) (by omega) HXB.out]), hbw⟩
  have HP := Lib.hid (partB_1 (hk := hk) HXB.out)
  by_cases hv0 : v.k = 0
  · have HG := Lib.hid (HP.out.trans (if_pos (by omega)))
    have bv : (v.k == 0) = true := by rw [beq_iff_eq]; exact hv0
    clear hv0
    go_wp2
    go_ret
    exact ⟨ret_int (by rw [HG.out]), hbw⟩
  have bv0 : (v.k == 0) = false := by rw [beq_eq_false_iff_ne]; exact hv0
  by_cases hv1 : v.k = 1
  · have HG := Lib.hid (HP.out.trans (if_pos (by omega)))
    have bv : (v.k == 1) = true := by rw [beq_iff_eq]; exact hv1
    clear hv1 hv0
    go_wp2
    go_ret
    exact ⟨ret_int (by rw [HG.out]), hbw⟩
  have bv1 : (v.k == 1) = false := by rw [beq_eq_false_iff_ne]; exact hv1
  have HG := Lib.hid (HP.out.trans (if_neg (by omega)))
  clear hv0 hv1
  go_wp2_with fail
  refine (check_any v A c _ w2 hvl hvs ((HX.out.1.more HX.out.2).below hbw) hbw.size).mono ?_
  rintro e w5 ⟨rfl, hb5⟩
  have hbw := hbw.trans (hb5.mono hbw.size)
  go_wp2
  go_ret
  exact ⟨ret_int (by rw [HG.out]), hbw⟩
set_option maxHeartbeats 4000000 in
set_option maxRecDepth 100000 in
theorem partFault_2 (op : Int) (nm : ByteArray) (v : Val) (n : Nat) (hk : Int) (A : Option Addr) (c : Nat) (A' : Option Addr) (c' B : Nat) (w : World) (hnm : nm.size ≤ maxLen) (hvs : v.s.size ≤ maxLen) (hvl : v.l.length ≤ maxLen) (hn : n ≤ maxLen)
    (hx : Reads w B 1 A v.l.length (numV .i64 v.l)) (hB : B ≤ w.heap.size) (hA : 0 < n → ∃ ad, A' = some ad ∧ ad.block < B ∧ w.cell? ad = some (.int .i64 hk)) :
    Calls Tryz.prog 69 #[.agg #[.int .i64 2, .int .i64 op, .string nm, .int .i64 v.k, .int .i64 v.n, .string v.s, .slice A v.l.length c, .slice A' n c']] w fun e w' => e = .returned (.int .i64 (partB 2 op nm v n hk)) ∧ Below w.heap.size w w' := by
  have HX := Lib.hid (And.intro hx hB)
  have HA := Lib.hid hA
  have HNN := Lib.hid hn
  unfold maxLen at hn
  clear hx hB hA
  obtain ⟨x, hx0⟩ : ∃ x, extraB 2 op nm v n = x := ⟨_, rfl⟩
  have HXB := Lib.hid hx0
  have HEX := Lib.hid (fun w' => extra_any 2 op nm v n A c A' c' w' HNN.out (by omega) (by omega))
  clear hx0
  go_enter Tryz.func69, Tryz.ntmps69
  go_wp2_with fail
  obtain ⟨W, hW⟩ : ∃ W, W = (w.alloc (.cells #[.int .i64 2, .int .i64 op, .string nm, .int .i64 v.k, .int .i64 v.n, .string v.s, .slice A v.l.length c, .slice A' n c'] 27 (0, 0))) := ⟨_, rfl⟩
  have hbw : Below w.heap.size w W := by rw [hW]; exact ((Below.refl _ w).alloc (Nat.le_refl _) _)
  have B0 : Blk W (w.heap.size) 27 #[.int .i64 2, .int .i64 op, .string nm, .int .i64 v.k, .int .i64 v.n, .string v.s, .slice A v.l.length c, .slice A' n c'] := by
    rw [hW]
    have := Blk.new w 27 #[.int .i64 2, .int .i64 op, .string nm, .int .i64 v.k, .int .i64 v.n, .string v.s, .slice A v.l.length c, .slice A' n c']
    exact this
  have hsz : W.heap.size = w.heap.size + 1 := by rw [hW]; simp
  rw [← hW]
  clear hW hsz
  have rc0 : W.cell? ⟨w.heap.size, 0, none⟩ = some (.int .i64 2) := B0.cell 0
  have rc1 : W.cell? ⟨w.heap.size, 1, none⟩ = some (.int .i64 op) := B0.cell 1
  have rc2 : W.cell? ⟨w.heap.size, 2, none⟩ = some (.string nm) := B0.cell 2
  have rc3 : W.cell? ⟨w.heap.size, 3, none⟩ = some (.int .i64 v.k) := B0.cell 3
  have rc4 : W.cell? ⟨w.heap.size, 4, none⟩ = some (.int .i64 v.n) := B0.cell 4
  have rc5 : W.cell? ⟨w.heap.size, 5, none⟩ = some (.string v.s) := B0.cell 5
  have rc6 : W.cell? ⟨w.heap.size, 6, none⟩ = some (.slice A v.l.length c) := B0.cell 6
  have rc7 : W.cell? ⟨w.heap.size, 7, none⟩ = some (.slice A' n c') := B0.cell 7
  refine (outside_any _ _ _ W).mono ?_
  rw [outB_k (by omega) (by omega)]
  rintro e1 w1 ⟨rfl, rfl⟩
  go_wp2_with fail
  refine (HEX.out W).mono ?_
  rw [HXB.out]
  rintro e2 w2 ⟨rfl, hb2⟩
  have B0 := B0.below hb2 B0.lt
  have hbw := hbw.trans (hb2.mono hbw.size)
  clear hb2 rc0 rc1 rc2 rc3 rc4 rc5 rc6 rc7
  have rc0 : w2.cell? ⟨w.heap.size, 0, none⟩ = some (.int .i64 2) := B0.cell 0
  have rc1 : w2.cell? ⟨w.heap.size, 1, none⟩ = some (.int .i64 op) := B0.cell 1
  have rc2 : w2.cell? ⟨w.heap.size, 2, none⟩ = some (.string nm) := B0.cell 2
  have rc3 : w2.cell? ⟨w.heap.size, 3, none⟩ = some (.int .i64 v.k) := B0.cell 3
  have rc4 : w2.cell? ⟨w.heap.size, 4, none⟩ = some (.int .i64 v.n) := B0.cell 4
  have rc5 : w2.cell? ⟨w.heap.size, 5, none⟩ = some (.string v.s) := B0.cell 5
  have rc6 : w2.cell? ⟨w.heap.size, 6, none⟩ = some (.slice A v.l.length c) := B0.cell 6
  have rc7 : w2.cell? ⟨w.heap.size, 7, none⟩ = some (.slice A' n c') := B0.cell 7
  cases x
  rotate_left
  · go_wp2
    go_ret
    exact ⟨ret_int (by rw [partB_x (by omega) (by omega) (by omega) (by omega) HXB.out]), hbw⟩
  obtain ⟨b, hb⟩ : ∃ b, isNameF nm.data.toList = b := ⟨_, rfl⟩
  have HB := Lib.hid hb
  have HP := Lib.hid (partB_n (hk := hk) (k := 2) (by omega) (by omega) HXB.out)
  clear hb
  go_wp2_with fail
  refine (IsName_any nm w2 hnm).mono ?_
  rw [HB.out]
  rintro e3 w3 ⟨rfl, rfl⟩
  cases b
  · go_wp2
    go_ret
    exact ⟨ret_int (by rw [HP.out, HB.out]; rfl), hbw⟩
  · go_wp2
    go_ret
    exact ⟨ret_int (by rw [HP.out, HB.out]; rfl), hbw⟩
set_option maxHeartbeats 4000000 in
set_option maxRecDepth 100000 in
theorem partFault_3 (op : Int) (nm : ByteArray) (v : Val) (n : Nat) (hk : Int) (A : Option Addr) (c : Nat) (A' : Option Addr) (c' B : Nat) (w : World) (hnm : nm.size ≤ maxLen) (hvs : v.s.size ≤ maxLen) (hvl : v.l.length ≤ maxLen) (hn : n ≤ maxLen)
    (hx : Reads w B 1 A v.l.length (numV .i64 v.l)) (hB : B ≤ w.heap.size) (hA : 0 < n → ∃ ad, A' = some ad ∧ ad.block < B ∧ w.cell? ad = some (.int .i64 hk)) :
    Calls Tryz.prog 69 #[.agg #[.int .i64 3, .int .i64 op, .string nm, .int .i64 v.k, .int .i64 v.n, .string v.s, .slice A v.l.length c, .slice A' n c']] w fun e w' => e = .returned (.int .i64 (partB 3 op nm v n hk)) ∧ Below w.heap.size w w' := by
  have HX := Lib.hid (And.intro hx hB)
  have HA := Lib.hid hA
  have HNN := Lib.hid hn
  unfold maxLen at hn
  clear hx hB hA
  obtain ⟨x, hx0⟩ : ∃ x, extraB 3 op nm v n = x := ⟨_, rfl⟩
  have HXB := Lib.hid hx0
  have HEX := Lib.hid (fun w' => extra_any 3 op nm v n A c A' c' w' HNN.out (by omega) (by omega))
  clear hx0
  go_enter Tryz.func69, Tryz.ntmps69
  go_wp2_with fail
  obtain ⟨W, hW⟩ : ∃ W, W = (w.alloc (.cells #[.int .i64 3, .int .i64 op, .string nm, .int .i64 v.k, .int .i64 v.n, .string v.s, .slice A v.l.length c, .slice A' n c'] 27 (0, 0))) := ⟨_, rfl⟩
  have hbw : Below w.heap.size w W := by rw [hW]; exact ((Below.refl _ w).alloc (Nat.le_refl _) _)
  have B0 : Blk W (w.heap.size) 27 #[.int .i64 3, .int .i64 op, .string nm, .int .i64 v.k, .int .i64 v.n, .string v.s, .slice A v.l.length c, .slice A' n c'] := by
    rw [hW]
    have := Blk.new w 27 #[.int .i64 3, .int .i64 op, .string nm, .int .i64 v.k, .int .i64 v.n, .string v.s, .slice A v.l.length c, .slice A' n c']
    exact this
  have hsz : W.heap.size = w.heap.size + 1 := by rw [hW]; simp
  rw [← hW]
  clear hW hsz
  have rc0 : W.cell? ⟨w.heap.size, 0, none⟩ = some (.int .i64 3) := B0.cell 0
  have rc1 : W.cell? ⟨w.heap.size, 1, none⟩ = some (.int .i64 op) := B0.cell 1
  have rc2 : W.cell? ⟨w.heap.size, 2, none⟩ = some (.string nm) := B0.cell 2
  have rc3 : W.cell? ⟨w.heap.size, 3, none⟩ = some (.int .i64 v.k) := B0.cell 3
  have rc4 : W.cell? ⟨w.heap.size, 4, none⟩ = some (.int .i64 v.n) := B0.cell 4
  have rc5 : W.cell? ⟨w.heap.size, 5, none⟩ = some (.string v.s) := B0.cell 5
  have rc6 : W.cell? ⟨w.heap.size, 6, none⟩ = some (.slice A v.l.length c) := B0.cell 6
  have rc7 : W.cell? ⟨w.heap.size, 7, none⟩ = some (.slice A' n c') := B0.cell 7
  refine (outside_any _ _ _ W).mono ?_
  rw [outB_k (by omega) (by omega)]
  rintro e1 w1 ⟨rfl, rfl⟩
  go_wp2_with fail
  refine (HEX.out W).mono ?_
  rw [HXB.out]
  rintro e2 w2 ⟨rfl, hb2⟩
  have B0 := B0.below hb2 B0.lt
  have hbw := hbw.trans (hb2.mono hbw.size)
  clear hb2 rc0 rc1 rc2 rc3 rc4 rc5 rc6 rc7
  have rc0 : w2.cell? ⟨w.heap.size, 0, none⟩ = some (.int .i64 3) := B0.cell 0
  have rc1 : w2.cell? ⟨w.heap.size, 1, none⟩ = some (.int .i64 op) := B0.cell 1
  have rc2 : w2.cell? ⟨w.heap.size, 2, none⟩ = some (.string nm) := B0.cell 2
  have rc3 : w2.cell? ⟨w.heap.size, 3, none⟩ = some (.int .i64 v.k) := B0.cell 3
  have rc4 : w2.cell? ⟨w.heap.size, 4, none⟩ = some (.int .i64 v.n) := B0.cell 4
  have rc5 : w2.cell? ⟨w.heap.size, 5, none⟩ = some (.string v.s) := B0.cell 5
  have rc6 : w2.cell? ⟨w.heap.size, 6, none⟩ = some (.slice A v.l.length c) := B0.cell 6
  have rc7 : w2.cell? ⟨w.heap.size, 7, none⟩ = some (.slice A' n c') := B0.cell 7
  cases x
  rotate_left
  · go_wp2
    go_ret
    exact ⟨ret_int (by rw [partB_x (by omega) (by omega) (by omega) (by omega) HXB.out]), hbw⟩
  obtain ⟨b, hb⟩ : ∃ b, isNameF nm.data.toList = b := ⟨_, rfl⟩
  have HB := Lib.hid hb
  have HP := Lib.hid (partB_n (hk := hk) (k := 3) (by omega) (by omega) HXB.out)
  clear hb
  go_wp2_with fail
  refine (IsName_any nm w2 hnm).mono ?_
  rw [HB.out]
  rintro e3 w3 ⟨rfl, rfl⟩
  cases b
  · go_wp2
    go_ret
    exact ⟨ret_int (by rw [HP.out, HB.out]; rfl), hbw⟩
  · go_wp2
    go_ret
    exact ⟨ret_int (by rw [HP.out, HB.out]; rfl), hbw⟩
set_option maxHeartbeats 4000000 in
set_option maxRecDepth 100000 in
theorem partFault_4 (op : Int) (nm : ByteArray) (v : Val) (n : Nat) (hk : Int) (A : Option Addr) (c : Nat) (A' : Option Addr) (c' B : Nat) (w : World) (hnm : nm.size ≤ maxLen) (hvs : v.s.size ≤ maxLen) (hvl : v.l.length ≤ maxLen) (hn : n ≤ maxLen)
    (hx : Reads w B 1 A v.l.length (numV .i64 v.l)) (hB : B ≤ w.heap.size) (hA : 0 < n → ∃ ad, A' = some ad ∧ ad.block < B ∧ w.cell? ad = some (.int .i64 hk)) :
    Calls Tryz.prog 69 #[.agg #[.int .i64 4, .int .i64 op, .string nm, .int .i64 v.k, .int .i64 v.n, .string v.s, .slice A v.l.length c, .slice A' n c']] w fun e w' => e = .returned (.int .i64 (partB 4 op nm v n hk)) ∧ Below w.heap.size w w' := by
  have HX := Lib.hid (And.intro hx hB)
  have HA := Lib.hid hA
  have HNN := Lib.hid hn
  unfold maxLen at hn
  clear hx hB hA
  obtain ⟨x, hx0⟩ : ∃ x, extraB 4 op nm v n = x := ⟨_, rfl⟩
  have HXB := Lib.hid hx0
  have HEX := Lib.hid (fun w' => extra_any 4 op nm v n A c A' c' w' HNN.out (by omega) (by omega))
  clear hx0
  obtain ⟨o, ho⟩ : ∃ o, outB op 1 39 = o := ⟨_, rfl⟩
  have HO := Lib.hid ho
  clear ho
  go_enter Tryz.func69, Tryz.ntmps69
  go_wp2_with fail
  obtain ⟨W, hW⟩ : ∃ W, W = (w.alloc (.cells #[.int .i64 4, .int .i64 op, .string nm, .int .i64 v.k, .int .i64 v.n, .string v.s, .slice A v.l.length c, .slice A' n c'] 27 (0, 0))) := ⟨_, rfl⟩
  have hbw : Below w.heap.size w W := by rw [hW]; exact ((Below.refl _ w).alloc (Nat.le_refl _) _)
  have B0 : Blk W (w.heap.size) 27 #[.int .i64 4, .int .i64 op, .string nm, .int .i64 v.k, .int .i64 v.n, .string v.s, .slice A v.l.length c, .slice A' n c'] := by
    rw [hW]
    have := Blk.new w 27 #[.int .i64 4, .int .i64 op, .string nm, .int .i64 v.k, .int .i64 v.n, .string v.s, .slice A v.l.length c, .slice A' n c']
    exact this
  have hsz : W.heap.size = w.heap.size + 1 := by rw [hW]; simp
  rw [← hW]
  clear hW hsz
  have rc0 : W.cell? ⟨w.heap.size, 0, none⟩ = some (.int .i64 4) := B0.cell 0
  have rc1 : W.cell? ⟨w.heap.size, 1, none⟩ = some (.int .i64 op) := B0.cell 1
  have rc2 : W.cell? ⟨w.heap.size, 2, none⟩ = some (.string nm) := B0.cell 2
  have rc3 : W.cell? ⟨w.heap.size, 3, none⟩ = some (.int .i64 v.k) := B0.cell 3
  have rc4 : W.cell? ⟨w.heap.size, 4, none⟩ = some (.int .i64 v.n) := B0.cell 4
  have rc5 : W.cell? ⟨w.heap.size, 5, none⟩ = some (.string v.s) := B0.cell 5
  have rc6 : W.cell? ⟨w.heap.size, 6, none⟩ = some (.slice A v.l.length c) := B0.cell 6
  have rc7 : W.cell? ⟨w.heap.size, 7, none⟩ = some (.slice A' n c') := B0.cell 7
  refine (outside_any _ _ _ W).mono ?_
  rw [outB_k (by omega) (by omega)]
  rintro e1 w1 ⟨rfl, rfl⟩
  go_wp2_with fail
  refine (outside_any _ _ _ W).mono ?_
  rw [HO.out]
  rintro e2 w2 ⟨rfl, rfl⟩
  cases o
  rotate_left
  · go_wp2
    go_ret
    exact ⟨ret_int (by rw [partB_4o HO.out]), hbw⟩
  go_wp2_with fail
  refine (HEX.out W).mono ?_
  rw [HXB.out]
  rintro e3 w3 ⟨rfl, hb3⟩
  have B0 := B0.below hb3 B0.lt
  have hbw := hbw.trans (hb3.mono hbw.size)
  clear hb3 rc0 rc1 rc2 rc3 rc4 rc5 rc6 rc7
  have rc0 : w3.cell? ⟨w.heap.size, 0, none⟩ = some (.int .i64 4) := B0.cell 0
  have rc1 : w3.cell? ⟨w.heap.size, 1, none⟩ = some (.int .i64 op) := B0.cell 1
  have rc2 : w3.cell? ⟨w.heap.size, 2, none⟩ = some (.string nm) := B0.cell 2
  have rc3 : w3.cell? ⟨w.heap.size, 3, none⟩ = some (.int .i64 v.k) := B0.cell 3
  have rc4 : w3.cell? ⟨w.heap.size, 4, none⟩ = some (.int .i64 v.n) := B0.cell 4
  have rc5 : w3.cell? ⟨w.heap.size, 5, none⟩ = some (.string v.s) := B0.cell 5
  have rc6 : w3.cell? ⟨w.heap.size, 6, none⟩ = some (.slice A v.l.length c) := B0.cell 6
  have rc7 : w3.cell? ⟨w.heap.size, 7, none⟩ = some (.slice A' n c') := B0.cell 7
  cases x
  rotate_left
  · go_wp2
    go_ret
    exact ⟨ret_int (by rw [partB_x (by omega) (by omega) (fun _ => HO.out) (by omega) HXB.out]), hbw⟩
  have HP := Lib.hid (partB_4 (hk := hk) HO.out HXB.out)
  by_cases ho12 : op = 12
  · have hn1 : n = 1 := by
      have h := HXB.out
      have e := arOf_ask (op := op) (by omega)
      unfold extraB at h
      rw [e] at h
      split at h
      · cases h
      · simp at h; omega
    obtain ⟨ad, rfl, had, hcell⟩ := HA.out (by omega)
    have hck : w3.cell? ad = some (.int .i64 hk) := by rw [hbw.cell (by have := HX.out.2; omega)]; exact hcell
    have hn0 : 0 < n := by omega
    have hn2 : (0 : Int) < n := by omega
    have bo : (op == 12) = true := by rw [beq_iff_eq]; exact ho12
    by_cases hk2 : hk = 2
    · have HG := Lib.hid (HP.out.trans (if_neg (by omega)))
      have bk : (hk != 2) = false := by simp [hk2]
      clear ho12 hk2 hn1
      go_wp2
      go_ret
      exact ⟨ret_int (by rw [HG.out]), hbw⟩
    · have HG := Lib.hid (HP.out.trans (if_pos (by omega)))
      have bk : (hk != 2) = true := by simpa using hk2
      clear ho12 hk2 hn1
      go_wp2
      go_ret
      exact ⟨ret_int (by rw [HG.out]), hbw⟩
  have bo12 : (op == 12) = false := by rw [beq_eq_false_iff_ne]; exact ho12
  by_cases ho13 : op = 13
  · have hn1 : n = 1 := by
      have h := HXB.out
      have e := arOf_ask (op := op) (by omega)
      unfold extraB at h
      rw [e] at h
      split at h
      · cases h
      · simp at h; omega
    obtain ⟨ad, rfl, had, hcell⟩ := HA.out (by omega)
    have hck : w3.cell? ad = some (.int .i64 hk) := by rw [hbw.cell (by have := HX.out.2; omega)]; exact hcell
    have hn0 : 0 < n := by omega
    have hn2 : (0 : Int) < n := by omega
    have bo : (op == 13) = true := by rw [beq_iff_eq]; exact ho13
    by_cases hk2 : hk = 2
    · have HG := Lib.hid (HP.out.trans (if_neg (by omega)))
      have bk : (hk != 2) = false := by simp [hk2]
      clear ho13 hk2 hn1
      go_wp2
      go_ret
      exact ⟨ret_int (by rw [HG.out]), hbw⟩
    · have HG := Lib.hid (HP.out.trans (if_pos (by omega)))
      have bk : (hk != 2) = true := by simpa using hk2
      clear ho13 hk2 hn1
      go_wp2
      go_ret
      exact ⟨ret_int (by rw [HG.out]), hbw⟩
  have bo13 : (op == 13) = false := by rw [beq_eq_false_iff_ne]; exact ho13
  by_cases ho14 : op = 14
  · have hn1 : n = 1 := by
      have h := HXB.out
      have e := arOf_ask (op := op) (by omega)
      unfold extraB at h
      rw [e] at h
      split at h
      · cases h
      · simp at h; omega
    obtain ⟨ad, rfl, had, hcell⟩ := HA.out (by omega)
    have hck : w3.cell? ad = some (.int .i64 hk) := by rw [hbw.cell (by have := HX.out.2; omega)]; exact hcell
    have hn0 : 0 < n := by omega
    have hn2 : (0 : Int) < n := by omega
    have bo : (op == 14) = true := by rw [beq_iff_eq]; exact ho14
    by_cases hk2 : hk = 2
    · have HG := Lib.hid (HP.out.trans (if_neg (by omega)))
      have bk : (hk != 2) = false := by simp [hk2]
      clear ho14 hk2 hn1
      go_wp2
      go_ret
      exact ⟨ret_int (by rw [HG.out]), hbw⟩
    · have HG := Lib.hid (HP.out.trans (if_pos (by omega)))
      have bk : (hk != 2) = true := by simpa using hk2
      clear ho14 hk2 hn1
      go_wp2
      go_ret
      exact ⟨ret_int (by rw [HG.out]), hbw⟩
  have bo14 : (op == 14) = false := by rw [beq_eq_false_iff_ne]; exact ho14
  have HG := Lib.hid (HP.out.trans (if_neg (by omega)))
  clear ho12 ho13 ho14
  go_wp2
  go_ret
  exact ⟨ret_int (by rw [HG.out]), hbw⟩
set_option maxHeartbeats 4000000 in
set_option maxRecDepth 100000 in
theorem partFault_5 (op : Int) (nm : ByteArray) (v : Val) (n : Nat) (hk : Int) (A : Option Addr) (c : Nat) (A' : Option Addr) (c' B : Nat) (w : World) (hnm : nm.size ≤ maxLen) (hvs : v.s.size ≤ maxLen) (hvl : v.l.length ≤ maxLen) (hn : n ≤ maxLen)
    (hx : Reads w B 1 A v.l.length (numV .i64 v.l)) (hB : B ≤ w.heap.size) (hA : 0 < n → ∃ ad, A' = some ad ∧ ad.block < B ∧ w.cell? ad = some (.int .i64 hk)) :
    Calls Tryz.prog 69 #[.agg #[.int .i64 5, .int .i64 op, .string nm, .int .i64 v.k, .int .i64 v.n, .string v.s, .slice A v.l.length c, .slice A' n c']] w fun e w' => e = .returned (.int .i64 (partB 5 op nm v n hk)) ∧ Below w.heap.size w w' := by
  have HX := Lib.hid (And.intro hx hB)
  have HA := Lib.hid hA
  have HNN := Lib.hid hn
  unfold maxLen at hn
  clear hx hB hA
  obtain ⟨x, hx0⟩ : ∃ x, extraB 5 op nm v n = x := ⟨_, rfl⟩
  have HXB := Lib.hid hx0
  have HEX := Lib.hid (fun w' => extra_any 5 op nm v n A c A' c' w' HNN.out (by omega) (by omega))
  clear hx0
  obtain ⟨o, ho⟩ : ∃ o, outB op 1 6 = o := ⟨_, rfl⟩
  have HO := Lib.hid ho
  clear ho
  go_enter Tryz.func69, Tryz.ntmps69
  go_wp2_with fail
  obtain ⟨W, hW⟩ : ∃ W, W = (w.alloc (.cells #[.int .i64 5, .int .i64 op, .string nm, .int .i64 v.k, .int .i64 v.n, .string v.s, .slice A v.l.length c, .slice A' n c'] 27 (0, 0))) := ⟨_, rfl⟩
  have hbw : Below w.heap.size w W := by rw [hW]; exact ((Below.refl _ w).alloc (Nat.le_refl _) _)
  have B0 : Blk W (w.heap.size) 27 #[.int .i64 5, .int .i64 op, .string nm, .int .i64 v.k, .int .i64 v.n, .string v.s, .slice A v.l.length c, .slice A' n c'] := by
    rw [hW]
    have := Blk.new w 27 #[.int .i64 5, .int .i64 op, .string nm, .int .i64 v.k, .int .i64 v.n, .string v.s, .slice A v.l.length c, .slice A' n c']
    exact this
  have hsz : W.heap.size = w.heap.size + 1 := by rw [hW]; simp
  rw [← hW]
  clear hW hsz
  have rc0 : W.cell? ⟨w.heap.size, 0, none⟩ = some (.int .i64 5) := B0.cell 0
  have rc1 : W.cell? ⟨w.heap.size, 1, none⟩ = some (.int .i64 op) := B0.cell 1
  have rc2 : W.cell? ⟨w.heap.size, 2, none⟩ = some (.string nm) := B0.cell 2
  have rc3 : W.cell? ⟨w.heap.size, 3, none⟩ = some (.int .i64 v.k) := B0.cell 3
  have rc4 : W.cell? ⟨w.heap.size, 4, none⟩ = some (.int .i64 v.n) := B0.cell 4
  have rc5 : W.cell? ⟨w.heap.size, 5, none⟩ = some (.string v.s) := B0.cell 5
  have rc6 : W.cell? ⟨w.heap.size, 6, none⟩ = some (.slice A v.l.length c) := B0.cell 6
  have rc7 : W.cell? ⟨w.heap.size, 7, none⟩ = some (.slice A' n c') := B0.cell 7
  refine (outside_any _ _ _ W).mono ?_
  rw [outB_k (by omega) (by omega)]
  rintro e1 w1 ⟨rfl, rfl⟩
  go_wp2_with fail
  refine (outside_any _ _ _ W).mono ?_
  rw [HO.out]
  rintro e2 w2 ⟨rfl, rfl⟩
  cases o
  rotate_left
  · go_wp2
    go_ret
    exact ⟨ret_int (by rw [partB_5o HO.out]), hbw⟩
  go_wp2_with fail
  refine (HEX.out W).mono ?_
  rw [HXB.out]
  rintro e3 w3 ⟨rfl, hb3⟩
  have B0 := B0.below hb3 B0.lt
  have hbw := hbw.trans (hb3.mono hbw.size)
  clear hb3 rc0 rc1 rc2 rc3 rc4 rc5 rc6 rc7
  have rc0 : w3.cell? ⟨w.heap.size, 0, none⟩ = some (.int .i64 5) := B0.cell 0
  have rc1 : w3.cell? ⟨w.heap.size, 1, none⟩ = some (.int .i64 op) := B0.cell 1
  have rc2 : w3.cell? ⟨w.heap.size, 2, none⟩ = some (.string nm) := B0.cell 2
  have rc3 : w3.cell? ⟨w.heap.size, 3, none⟩ = some (.int .i64 v.k) := B0.cell 3
  have rc4 : w3.cell? ⟨w.heap.size, 4, none⟩ = some (.int .i64 v.n) := B0.cell 4
  have rc5 : w3.cell? ⟨w.heap.size, 5, none⟩ = some (.string v.s) := B0.cell 5
  have rc6 : w3.cell? ⟨w.heap.size, 6, none⟩ = some (.slice A v.l.length c) := B0.cell 6
  have rc7 : w3.cell? ⟨w.heap.size, 7, none⟩ = some (.slice A' n c') := B0.cell 7
  cases x
  rotate_left
  · go_wp2
    go_ret
    exact ⟨ret_int (by rw [partB_x (by omega) (by omega) (by omega) (fun _ => HO.out) HXB.out]), hbw⟩
  obtain ⟨b, hb⟩ : ∃ b, isNameF nm.data.toList = b := ⟨_, rfl⟩
  have HB := Lib.hid hb
  have HP := Lib.hid (partB_n (hk := hk) (k := 5) (by omega) (fun _ => HO.out) HXB.out)
  clear hb
  go_wp2_with fail
  refine (IsName_any nm w3 hnm).mono ?_
  rw [HB.out]
  rintro e4 w4 ⟨rfl, rfl⟩
  cases b
  · go_wp2
    go_ret
    exact ⟨ret_int (by rw [HP.out, HB.out]; rfl), hbw⟩
  · go_wp2
    go_ret
    exact ⟨ret_int (by rw [HP.out, HB.out]; rfl), hbw⟩
theorem partFault_any (k op : Int) (nm : ByteArray) (v : Val) (n : Nat) (hk : Int) (A : Option Addr) (c : Nat) (A' : Option Addr) (c' B : Nat) (w : World) (hnm : nm.size ≤ maxLen) (hvs : v.s.size ≤ maxLen) (hvl : v.l.length ≤ maxLen) (hn : n ≤ maxLen)
    (hx : Reads w B 1 A v.l.length (numV .i64 v.l)) (hB : B ≤ w.heap.size) (hA : 0 < n → ∃ ad, A' = some ad ∧ ad.block < B ∧ w.cell? ad = some (.int .i64 hk)) :
    Calls Tryz.prog 69 #[.agg #[.int .i64 k, .int .i64 op, .string nm, .int .i64 v.k, .int .i64 v.n, .string v.s, .slice A v.l.length c, .slice A' n c']] w fun e w' => e = .returned (.int .i64 (partB k op nm v n hk)) ∧ Below w.heap.size w w' := by
  by_cases ho : outB k 1 5 = true
  · exact partFault_out k op nm v n hk A c A' c' w ho
  · have h : k = 1 ∨ k = 2 ∨ k = 3 ∨ k = 4 ∨ k = 5 := by simp [outB] at ho; omega
    rcases h with rfl | rfl | rfl | rfl | rfl
    · exact partFault_1 op nm v n hk A c A' c' B w hnm hvs hvl hn hx hB hA
    · exact partFault_2 op nm v n hk A c A' c' B w hnm hvs hvl hn hx hB hA
    · exact partFault_3 op nm v n hk A c A' c' B w hnm hvs hvl hn hx hB hA
    · exact partFault_4 op nm v n hk A c A' c' B w hnm hvs hvl hn hx hB hA
    · exact partFault_5 op nm v n hk A c A' c' B w hnm hvs hvl hn hx hB hA
end Go.Proofs.YtcmccjcelchlhaaGreatDoor
