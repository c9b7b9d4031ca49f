/- The policy Old: its closure, which makes a pair of a choice. -/
import Derived.Test.YtoaaiffbgiehpaaGreatDoorW2
import Derived.Test.YtoaaiffbgiehpaaGreatDoorW3
import Derived.BigRegion
namespace Go.Proofs.YtoaaiffbgiehpaaGreatDoor
open Go.RowKit

theorem new_two (w : World) (t : TypeId) (u v : Value) :
    (w.alloc (.cells #[u, v] t)).cell? ⟨w.heap.size, 0, none⟩ = some u ∧ (w.alloc (.cells #[u, v] t)).cell? ⟨w.heap.size, 1, none⟩ = some v ∧
    (w.alloc (.cells #[u, v] t)).frozen? ⟨w.heap.size, 0, none⟩ = false ∧ (w.alloc (.cells #[u, v] t)).frozen? ⟨w.heap.size, 1, none⟩ = false := by
  refine ⟨by simp, by simp, ?_, ?_⟩ <;> simp [go_sem]

set_option maxRecDepth 100000 in
set_option maxHeartbeats 400000 in
theorem pair_0 (lb la : Nat) (x y : Int) (w : World) (hb : w.cell? ⟨lb, 0, none⟩ = some (.slice (some ⟨la, 0, none⟩) 3 3))
    (hlb : lb < w.heap.size) (hla : la < w.heap.size)
    (h1 : w.cell? ⟨la, 0, none⟩ = some (.int .i64 x)) (h2 : w.cell? ⟨la, 1, none⟩ = some (.int .i64 y)) :
    Calls Tryz.prog 379 #[.int .i64 0, .pointer (some ⟨lb, 0, none⟩)] w fun e w' => e = .returned (.agg #[.int .i64 x, .int .i64 y]) ∧ Below w.heap.size w w' := by
  go_enter Tryz.func379, Tryz.ntmps379
  go_wp2
  have hB : Below w.heap.size w (w.alloc (.cells #[.int .i64 0, .int .i64 0] 522)) := (Below.refl _ _).alloc (Nat.le_refl _) _
  obtain ⟨n0, n1, n2, n3⟩ := new_two w 522 (.int .i64 0) (.int .i64 0)
  have e1 := (hB.cell (p := ⟨lb, 0, none⟩) hlb).trans hb
  have e2 := (hB.cell (p := ⟨la, 0, none⟩) hla).trans h1
  have e3 := (hB.cell (p := ⟨la, 1, none⟩) hla).trans h2
  generalize w.alloc (.cells #[.int .i64 0, .int .i64 0] 522) = W at *
  clear hb h1 h2
  go_region
  go_wp2
  refine bodyPost_ret (v := .agg #[.int .i64 x, .int .i64 y]) (by simp [results, Tryz.results379, go_sem, n0, n1]) rfl ⟨rfl, ?_⟩
  exact ((hB.setCell (p := ⟨w.heap.size, 0, none⟩) (Nat.le_refl _) _).setCell (p := ⟨w.heap.size, 1, none⟩) (Nat.le_refl _) _).drew

set_option maxRecDepth 100000 in
set_option maxHeartbeats 400000 in
theorem pair_1 (lb la : Nat) (x y : Int) (w : World) (hb : w.cell? ⟨lb, 0, none⟩ = some (.slice (some ⟨la, 0, none⟩) 3 3))
    (hlb : lb < w.heap.size) (hla : la < w.heap.size)
    (h1 : w.cell? ⟨la, 3, none⟩ = some (.int .i64 x)) (h2 : w.cell? ⟨la, 4, none⟩ = some (.int .i64 y)) :
    Calls Tryz.prog 379 #[.int .i64 1, .pointer (some ⟨lb, 0, none⟩)] w fun e w' => e = .returned (.agg #[.int .i64 x, .int .i64 y]) ∧ Below w.heap.size w w' := by
  go_enter Tryz.func379, Tryz.ntmps379
  go_wp2
  have hB : Below w.heap.size w (w.alloc (.cells #[.int .i64 0, .int .i64 0] 522)) := (Below.refl _ _).alloc (Nat.le_refl _) _
  obtain ⟨n0, n1, n2, n3⟩ := new_two w 522 (.int .i64 0) (.int .i64 0)
  have e1 := (hB.cell (p := ⟨lb, 0, none⟩) hlb).trans hb
  have e2 := (hB.cell (p := ⟨la, 3, none⟩) hla).trans h1
  have e3 := (hB.cell (p := ⟨la, 4, none⟩) hla).trans h2
  generalize w.alloc (.cells #[.int .i64 0, .int .i64 0] 522) = W at *
  clear hb h1 h2
  go_region
  go_wp2
  refine bodyPost_ret (v := .agg #[.int .i64 x, .int .i64 y]) (by simp [results, Tryz.results379, go_sem, n0, n1]) rfl ⟨rfl, ?_⟩
  exact ((hB.setCell (p := ⟨w.heap.size, 0, none⟩) (Nat.le_refl _) _).setCell (p := ⟨w.heap.size, 1, none⟩) (Nat.le_refl _) _).drew

set_option maxRecDepth 100000 in
set_option maxHeartbeats 400000 in
theorem pair_2 (lb la : Nat) (x y : Int) (w : World) (hb : w.cell? ⟨lb, 0, none⟩ = some (.slice (some ⟨la, 0, none⟩) 3 3))
    (hlb : lb < w.heap.size) (hla : la < w.heap.size)
    (h1 : w.cell? ⟨la, 6, none⟩ = some (.int .i64 x)) (h2 : w.cell? ⟨la, 7, none⟩ = some (.int .i64 y)) :
    Calls Tryz.prog 379 #[.int .i64 2, .pointer (some ⟨lb, 0, none⟩)] w fun e w' => e = .returned (.agg #[.int .i64 x, .int .i64 y]) ∧ Below w.heap.size w w' := by
  go_enter Tryz.func379, Tryz.ntmps379
  go_wp2
  have hB : Below w.heap.size w (w.alloc (.cells #[.int .i64 0, .int .i64 0] 522)) := (Below.refl _ _).alloc (Nat.le_refl _) _
  obtain ⟨n0, n1, n2, n3⟩ := new_two w 522 (.int .i64 0) (.int .i64 0)
  have e1 := (hB.cell (p := ⟨lb, 0, none⟩) hlb).trans hb
  have e2 := (hB.cell (p := ⟨la, 6, none⟩) hla).trans h1
  have e3 := (hB.cell (p := ⟨la, 7, none⟩) hla).trans h2
  generalize w.alloc (.cells #[.int .i64 0, .int .i64 0] 522) = W at *
  clear hb h1 h2
  go_region
  go_wp2
  refine bodyPost_ret (v := .agg #[.int .i64 x, .int .i64 y]) (by simp [results, Tryz.results379, go_sem, n0, n1]) rfl ⟨rfl, ?_⟩
  exact ((hB.setCell (p := ⟨w.heap.size, 0, none⟩) (Nat.le_refl _) _).setCell (p := ⟨w.heap.size, 1, none⟩) (Nat.le_refl _) _).drew

/-- What the rule Old comes to. -/
def PostO (c mb : Nat) (w : World) (r v : Int) (es : Array MapEntry) (clk : Nat) (e : Ending) (w' : World) : Prop :=
  e = .returned (.int .i64 r) ∧ Below mb w w' ∧ w'.cell? ⟨c, 0, none⟩ = some (.int .i64 v) ∧ w'.cell? ⟨c, 1, none⟩ = some (.map (some mb)) ∧ w'.frozen? ⟨c, 0, none⟩ = false ∧ w'.heap[mb]? = some (.map es clk) ∧ c < w'.heap.size

end Go.Proofs.YtoaaiffbgiehpaaGreatDoor
