/- The policy Old: what its map answers and how it is written, at the three choices that awake lends. -/
import Derived.Test.YtoaaiffbgiehpaaGreatDoorW1
namespace Go.Proofs.YtoaaiffbgiehpaaGreatDoor
open Go.RowKit
@[reducible] def ent (a b n : Int) (t : Nat) : MapEntry := { key := .agg #[.int .i64 a, .int .i64 b], val := .int .i64 n, born := t }
theorem check_any (w : World) (e : Bool) (a b : Int) : (Instr.checkKey e 10000 522 (.agg #[.int .i64 a, .int .i64 b])).run Tryz.prog w = .ok () w := by kernel_rfl

theorem find_0_0 (w : World) : (Instr.findKey 522 (.agg #[.int .i64 0, .int .i64 1]) (#[] : Array MapEntry).toList).run Tryz.prog w = .ok (.none) w := by kernel_rfl
theorem look_0_0 (w : World) (mb clk : Nat) (h : w.heap[mb]? = some (.map #[] clk)) : (Instr.lookup 74 (.map (some mb)) (.agg #[.int .i64 0, .int .i64 1]) false).run Tryz.prog w = .ok (.int .i64 0) w := by
  have hz : (zeroValue 3).run Tryz.prog w = .ok (.int .i64 0) w := by kernel_rfl
  have hf := find_0_0 w
  simp only [Instr.lookup]
  simp [run_underlying Tryz.underlying74, run_getObj_map w mb _ clk h, check_any] at hf ⊢
  rw [hf]; simp [hz]

theorem find_0_1 (w : World) : (Instr.findKey 522 (.agg #[.int .i64 2, .int .i64 0]) (#[] : Array MapEntry).toList).run Tryz.prog w = .ok (.none) w := by kernel_rfl
theorem look_0_1 (w : World) (mb clk : Nat) (h : w.heap[mb]? = some (.map #[] clk)) : (Instr.lookup 74 (.map (some mb)) (.agg #[.int .i64 2, .int .i64 0]) false).run Tryz.prog w = .ok (.int .i64 0) w := by
  have hz : (zeroValue 3).run Tryz.prog w = .ok (.int .i64 0) w := by kernel_rfl
  have hf := find_0_1 w
  simp only [Instr.lookup]
  simp [run_underlying Tryz.underlying74, run_getObj_map w mb _ clk h, check_any] at hf ⊢
  rw [hf]; simp [hz]

theorem find_0_2 (w : World) : (Instr.findKey 522 (.agg #[.int .i64 2, .int .i64 3]) (#[] : Array MapEntry).toList).run Tryz.prog w = .ok (.none) w := by kernel_rfl
theorem look_0_2 (w : World) (mb clk : Nat) (h : w.heap[mb]? = some (.map #[] clk)) : (Instr.lookup 74 (.map (some mb)) (.agg #[.int .i64 2, .int .i64 3]) false).run Tryz.prog w = .ok (.int .i64 0) w := by
  have hz : (zeroValue 3).run Tryz.prog w = .ok (.int .i64 0) w := by kernel_rfl
  have hf := find_0_2 w
  simp only [Instr.lookup]
  simp [run_underlying Tryz.underlying74, run_getObj_map w mb _ clk h, check_any] at hf ⊢
  rw [hf]; simp [hz]

theorem find_1_0 (w : World) : (Instr.findKey 522 (.agg #[.int .i64 0, .int .i64 1]) (#[ent 0 1 1 0] : Array MapEntry).toList).run Tryz.prog w = .ok (.some (0, .int .i64 1)) w := by kernel_rfl
theorem look_1_0 (w : World) (mb clk : Nat) (h : w.heap[mb]? = some (.map #[ent 0 1 1 0] clk)) : (Instr.lookup 74 (.map (some mb)) (.agg #[.int .i64 0, .int .i64 1]) false).run Tryz.prog w = .ok (.int .i64 1) w := by
  have hf := find_1_0 w
  simp only [Instr.lookup]
  simp [run_underlying Tryz.underlying74, run_getObj_map w mb _ clk h, check_any] at hf ⊢
  rw [hf]; simp

theorem find_1_1 (w : World) : (Instr.findKey 522 (.agg #[.int .i64 2, .int .i64 0]) (#[ent 0 1 1 0] : Array MapEntry).toList).run Tryz.prog w = .ok (.none) w := by kernel_rfl
theorem look_1_1 (w : World) (mb clk : Nat) (h : w.heap[mb]? = some (.map #[ent 0 1 1 0] clk)) : (Instr.lookup 74 (.map (some mb)) (.agg #[.int .i64 2, .int .i64 0]) false).run Tryz.prog w = .ok (.int .i64 0) w := by
  have hz : (zeroValue 3).run Tryz.prog w = .ok (.int .i64 0) w := by kernel_rfl
  have hf := find_1_1 w
  simp only [Instr.lookup]
  simp [run_underlying Tryz.underlying74, run_getObj_map w mb _ clk h, check_any] at hf ⊢
  rw [hf]; simp [hz]

theorem find_1_2 (w : World) : (Instr.findKey 522 (.agg #[.int .i64 2, .int .i64 3]) (#[ent 0 1 1 0] : Array MapEntry).toList).run Tryz.prog w = .ok (.none) w := by kernel_rfl
theorem look_1_2 (w : World) (mb clk : Nat) (h : w.heap[mb]? = some (.map #[ent 0 1 1 0] clk)) : (Instr.lookup 74 (.map (some mb)) (.agg #[.int .i64 2, .int .i64 3]) false).run Tryz.prog w = .ok (.int .i64 0) w := by
  have hz : (zeroValue 3).run Tryz.prog w = .ok (.int .i64 0) w := by kernel_rfl
  have hf := find_1_2 w
  simp only [Instr.lookup]
  simp [run_underlying Tryz.underlying74, run_getObj_map w mb _ clk h, check_any] at hf ⊢
  rw [hf]; simp [hz]

theorem find_2_0 (w : World) : (Instr.findKey 522 (.agg #[.int .i64 0, .int .i64 1]) (#[ent 0 1 1 0, ent 2 0 2 1] : Array MapEntry).toList).run Tryz.prog w = .ok (.some (0, .int .i64 1)) w := by kernel_rfl
theorem look_2_0 (w : World) (mb clk : Nat) (h : w.heap[mb]? = some (.map #[ent 0 1 1 0, ent 2 0 2 1] clk)) : (Instr.lookup 74 (.map (some mb)) (.agg #[.int .i64 0, .int .i64 1]) false).run Tryz.prog w = .ok (.int .i64 1) w := by
  have hf := find_2_0 w
  simp only [Instr.lookup]
  simp [run_underlying Tryz.underlying74, run_getObj_map w mb _ clk h, check_any] at hf ⊢
  rw [hf]; simp

theorem find_2_1 (w : World) : (Instr.findKey 522 (.agg #[.int .i64 2, .int .i64 0]) (#[ent 0 1 1 0, ent 2 0 2 1] : Array MapEntry).toList).run Tryz.prog w = .ok (.some (1, .int .i64 2)) w := by kernel_rfl
theorem look_2_1 (w : World) (mb clk : Nat) (h : w.heap[mb]? = some (.map #[ent 0 1 1 0, ent 2 0 2 1] clk)) : (Instr.lookup 74 (.map (some mb)) (.agg #[.int .i64 2, .int .i64 0]) false).run Tryz.prog w = .ok (.int .i64 2) w := by
  have hf := find_2_1 w
  simp only [Instr.lookup]
  simp [run_underlying Tryz.underlying74, run_getObj_map w mb _ clk h, check_any] at hf ⊢
  rw [hf]; simp

theorem find_2_2 (w : World) : (Instr.findKey 522 (.agg #[.int .i64 2, .int .i64 3]) (#[ent 0 1 1 0, ent 2 0 2 1] : Array MapEntry).toList).run Tryz.prog w = .ok (.none) w := by kernel_rfl
theorem look_2_2 (w : World) (mb clk : Nat) (h : w.heap[mb]? = some (.map #[ent 0 1 1 0, ent 2 0 2 1] clk)) : (Instr.lookup 74 (.map (some mb)) (.agg #[.int .i64 2, .int .i64 3]) false).run Tryz.prog w = .ok (.int .i64 0) w := by
  have hz : (zeroValue 3).run Tryz.prog w = .ok (.int .i64 0) w := by kernel_rfl
  have hf := find_2_2 w
  simp only [Instr.lookup]
  simp [run_underlying Tryz.underlying74, run_getObj_map w mb _ clk h, check_any] at hf ⊢
  rw [hf]; simp [hz]

/-- A block that is no row of cells, written. -/
def setAt (w : World) (r : Nat) (o : Obj) : World := { w with heap := w.heap.setIfInBounds r o }
theorem setAt_same {w : World} {r : Nat} {o : Obj} (h : r < w.heap.size) : (setAt w r o).heap[r]? = some o := by simp [setAt, h]
theorem setAt_other {w : World} {r k : Nat} {o : Obj} (h : k ≠ r) : (setAt w r o).heap[k]? = w.heap[k]? := by
  simp [setAt, Array.getElem?_setIfInBounds_ne (Ne.symm h)]
theorem setAt_below {B : Nat} {w : World} {r : Nat} {o : Obj} (h : B ≤ r) : Below B w (setAt w r o) :=
  ⟨rfl, rfl, rfl, by simp [setAt], fun k hk => setAt_other (by omega)⟩
theorem setAt_cell {w : World} {r b i : Nat} {o : Obj} (h : b ≠ r) : (setAt w r o).cell? ⟨b, i, none⟩ = w.cell? ⟨b, i, none⟩ := World.cell?_of_block (w := w) (a := ⟨b, i, none⟩) (setAt_other h)
theorem setAt_frozen {w : World} {r b i : Nat} {o : Obj} (h : b ≠ r) : (setAt w r o).frozen? ⟨b, i, none⟩ = w.frozen? ⟨b, i, none⟩ := World.frozen?_of_block (w := w) (a := ⟨b, i, none⟩) (setAt_other h)

theorem upd_0 (w : World) (mb : Nat) (h : w.heap[mb]? = some (.map #[] 0)) : (Instr.mapUpdate 74 (.map (some mb)) (.agg #[.int .i64 0, .int .i64 1]) (.int .i64 1)).run Tryz.prog w = .ok () (setAt w mb (.map #[ent 0 1 1 0] 1)) := by
  have hf := find_0_0 w
  have hs : ∀ o, (setObj mb o).run Tryz.prog w = .ok () { w with heap := w.heap.setIfInBounds mb o } := fun o => by simp [setObj, Sem.run, h]
  simp only [Instr.mapUpdate]
  simp [run_underlying Tryz.underlying74, run_getObj_map w mb _ 0 h, check_any] at hf ⊢
  rw [hf]
  simp [hs, setAt]

theorem upd_1 (w : World) (mb : Nat) (h : w.heap[mb]? = some (.map #[ent 0 1 1 0] 1)) : (Instr.mapUpdate 74 (.map (some mb)) (.agg #[.int .i64 2, .int .i64 0]) (.int .i64 2)).run Tryz.prog w = .ok () (setAt w mb (.map #[ent 0 1 1 0, ent 2 0 2 1] 2)) := by
  have hf := find_1_1 w
  have hs : ∀ o, (setObj mb o).run Tryz.prog w = .ok () { w with heap := w.heap.setIfInBounds mb o } := fun o => by simp [setObj, Sem.run, h]
  simp only [Instr.mapUpdate]
  simp [run_underlying Tryz.underlying74, run_getObj_map w mb _ 1 h, check_any] at hf ⊢
  rw [hf]
  simp [hs, setAt]

theorem upd_2 (w : World) (mb : Nat) (h : w.heap[mb]? = some (.map #[ent 0 1 1 0, ent 2 0 2 1] 2)) : (Instr.mapUpdate 74 (.map (some mb)) (.agg #[.int .i64 2, .int .i64 3]) (.int .i64 3)).run Tryz.prog w = .ok () (setAt w mb (.map #[ent 0 1 1 0, ent 2 0 2 1, ent 2 3 3 2] 3)) := by
  have hf := find_2_2 w
  have hs : ∀ o, (setObj mb o).run Tryz.prog w = .ok () { w with heap := w.heap.setIfInBounds mb o } := fun o => by simp [setObj, Sem.run, h]
  simp only [Instr.mapUpdate]
  simp [run_underlying Tryz.underlying74, run_getObj_map w mb _ 2 h, check_any] at hf ⊢
  rw [hf]
  simp [hs, setAt]

end Go.Proofs.YtoaaiffbgiehpaaGreatDoor
