/- The rule Turns: its answer, and what it does to its cell. -/
import Derived.Test.YtoaaiffbgiehpaaGreatDoorW1
import Derived.Deep.QuietTactic
import Derived.BigQuiet
import Derived.Laws.NewDeep
namespace Go.Proofs.YtoaaiffbgiehpaaGreatDoor
open Go.RowKit
def LH (la : Nat) (w : World) : Prop :=
  (w.cell? ⟨la, 0, none⟩ = some (.int .i64 0) ∧ w.cell? ⟨la, 1, none⟩ = some (.int .i64 1) ∧ w.cell? ⟨la, 2, none⟩ = some (.slice none 0 0)) ∧
  (w.cell? ⟨la, 3, none⟩ = some (.int .i64 2) ∧ w.cell? ⟨la, 4, none⟩ = some (.int .i64 0) ∧ w.cell? ⟨la, 5, none⟩ = some (.slice none 0 0)) ∧
  (w.cell? ⟨la, 6, none⟩ = some (.int .i64 2) ∧ w.cell? ⟨la, 7, none⟩ = some (.int .i64 3) ∧ w.cell? ⟨la, 8, none⟩ = some (.slice none 0 0))
def Post1 (c : Nat) (w : World) (r v : Int) (e : Ending) (w' : World) : Prop :=
  e = .returned (.int .i64 r) ∧ w'.cell? ⟨c, 0, none⟩ = some (.int .i64 v) ∧ w'.frozen? ⟨c, 0, none⟩ = false ∧ Below c w w'
theorem post1_of {c : Nat} {w W : World} {u : Value} (r v : Int) (hlt : c < w.heap.size) (hc : w.cell? ⟨c, 0, none⟩ = some u) (hf : w.frozen? ⟨c, 0, none⟩ = false) (hB : Below w.heap.size w W) :
    Post1 c w r v (.returned (.int .i64 r)) (W.setCell ⟨c, 0, none⟩ (.int .i64 v)) := by
  have h1 := hB.cell (p := ⟨c, 0, none⟩) hlt
  have h2 := hB.frozen (p := ⟨c, 0, none⟩) hlt
  exact ⟨rfl, World.cell?_setCell_same' _ _ _ (by rw [h1, hc]; rfl), by rw [World.frozen?_setCell, h2, hf], (hB.mono (Nat.le_of_lt hlt)).setCell (p := ⟨c, 0, none⟩) (Nat.le_refl _) _⟩
set_option maxRecDepth 100000 in
set_option maxHeartbeats 400000 in
theorem turns_a (c la : Nat) (w : World) (hlt : c < w.heap.size) (hlc : la < c) (hc : w.cell? ⟨c, 0, none⟩ = some (.int .i64 (-1))) (hf : w.frozen? ⟨c, 0, none⟩ = false) 
  (hl : LH la w) :
    Calls Tryz.prog 374 #[.pointer (some ⟨c, 0, none⟩), .slice (some ⟨la, 0, none⟩) 3 3] w (Post1 c w 0 0) := by
  obtain ⟨⟨h00, h01, h02⟩, ⟨h03, h04, h05⟩, ⟨h06, h07, h08⟩⟩ := hl
  have hla : la < w.heap.size := by omega
  go_enter Tryz.func374, Tryz.ntmps374
  go_wp2
  refine wp_loop_rounds 1 ?_
  rw [rounds_succ]
  go_wp2
  go_quiet (fail)
  go_wp2
  go_ret
  exact post1_of _ _ hlt hc hf (by repeat (first | exact Below.refl _ _ | refine below_drewN ?_ _ | refine Below.alloc ?_ (by simp <;> omega) _))
set_option maxRecDepth 100000 in
set_option maxHeartbeats 400000 in
theorem turns_b (c la : Nat) (w : World) (hlt : c < w.heap.size) (hlc : la < c) (hc : w.cell? ⟨c, 0, none⟩ = some (.int .i64 0)) (hf : w.frozen? ⟨c, 0, none⟩ = false) 
  (hl : LH la w) :
    Calls Tryz.prog 374 #[.pointer (some ⟨c, 0, none⟩), .slice (some ⟨la, 0, none⟩) 3 3] w (Post1 c w 1 2) := by
  obtain ⟨⟨h00, h01, h02⟩, ⟨h03, h04, h05⟩, ⟨h06, h07, h08⟩⟩ := hl
  have hla : la < w.heap.size := by omega
  go_enter Tryz.func374, Tryz.ntmps374
  go_wp2
  refine wp_loop_rounds 2 ?_
  rw [rounds_succ]
  go_wp2
  go_quiet (fail)
  go_wp2
  rw [rounds_succ]
  go_wp2
  go_quiet (fail)
  go_wp2
  go_ret
  exact post1_of _ _ hlt hc hf (by repeat (first | exact Below.refl _ _ | refine below_drewN ?_ _ | refine Below.alloc ?_ (by simp <;> omega) _))
set_option maxRecDepth 100000 in
set_option maxHeartbeats 400000 in
theorem turns_c (c la : Nat) (w : World) (hlt : c < w.heap.size) (hlc : la < c) (hc : w.cell? ⟨c, 0, none⟩ = some (.int .i64 2)) (hf : w.frozen? ⟨c, 0, none⟩ = false) 
  (hl : LH la w) :
    Calls Tryz.prog 374 #[.pointer (some ⟨c, 0, none⟩), .slice (some ⟨la, 0, none⟩) 3 3] w (Post1 c w 0 0) := by
  obtain ⟨⟨h00, h01, h02⟩, ⟨h03, h04, h05⟩, ⟨h06, h07, h08⟩⟩ := hl
  have hla : la < w.heap.size := by omega
  have hl1 : c < w.heap.size + 1 := by omega
  have hl2 : c < w.heap.size + 1 + 1 := by omega
  have hl3 : c < w.heap.size + 1 + 1 + 1 := by omega
  have hm1 : la < w.heap.size + 1 := by omega
  have hm2 : la < w.heap.size + 1 + 1 := by omega
  have hm3 : la < w.heap.size + 1 + 1 + 1 := by omega
  go_enter Tryz.func374, Tryz.ntmps374
  go_wp2
  refine wp_loop_rounds 4 ?_
  rw [rounds_succ]
  go_wp2
  go_quiet (fail)
  go_wp2
  rw [rounds_succ]
  go_wp2
  go_quiet (fail)
  go_wp2
  rw [rounds_succ]
  go_wp2
  go_quiet (fail)
  go_wp2
  rw [rounds_succ]
  go_wp2
  go_ret
  exact post1_of _ _ hlt hc hf (by repeat (first | exact Below.refl _ _ | refine below_drewN ?_ _ | refine Below.alloc ?_ (by simp <;> omega) _))
end Go.Proofs.YtoaaiffbgiehpaaGreatDoor
