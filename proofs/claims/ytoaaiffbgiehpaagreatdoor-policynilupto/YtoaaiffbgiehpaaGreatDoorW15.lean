/- system.New of the program of one tag and one kind; what a system without actors answers. -/
import Derived.Test.YtoaaiffbgiehpaaGreatDoorW14
namespace Go.Proofs.YtoaaiffbgiehpaaGreatDoor
open Go.RowKit
theorem info44 : (Tryz.prog.info? 44).map (fun i => (i.zero, i.size, i.bytes)) = some (some (.agg #[.string ⟨#[]⟩, .slice none 0 0]), 2, 40) := by kernel_rfl
theorem info48 : (Tryz.prog.info? 48).map (fun i => (i.zero, i.size, i.bytes)) = some (some (.agg #[.string ⟨#[]⟩, .slice none 0 0]), 2, 40) := by kernel_rfl
set_option maxRecDepth 100000 in
set_option maxHeartbeats 400000 in
theorem clone_ints (w : World) : Calls Tryz.prog 31 #[.slice none 0 0] w fun e w' => e = .returned (.slice none 0 0) ∧ w = w' := by
  have hq := fun w => Lib.run_eql_slice_nil (P := Tryz.prog) w 42 3 none 0 0 0 0 Tryz.underlying42
  go_enter Tryz.func31, Tryz.ntmps31
  go_wp2
  go_ret
  exact ⟨rfl, rfl⟩
set_option maxRecDepth 100000 in
set_option maxHeartbeats 400000 in
theorem clone_chords (w : World) : Calls Tryz.prog 34 #[.slice none 0 0] w fun e w' => e = .returned (.slice none 0 0) ∧ w = w' := by
  have hq := fun w => Lib.run_eql_slice_nil (P := Tryz.prog) w 46 146 none 0 0 0 0 Tryz.underlying46
  go_enter Tryz.func34, Tryz.ntmps34
  go_wp2
  go_ret
  exact ⟨rfl, rfl⟩
set_option maxRecDepth 100000 in
set_option maxHeartbeats 1000000 in
theorem copied_any (t k : Nat) (w : World) (hp : ProgAt t k w) :
    Calls Tryz.prog 14 #[.agg #[.slice (some ⟨t, 0, none⟩) 1 1, .slice (some ⟨k, 0, none⟩) 1 1]] w fun e w' => (∃ g0 c0 g1 c1, e = .returned (.agg #[.slice (some ⟨g0, 0, none⟩) 1 c0, .slice (some ⟨g1, 0, none⟩) 1 c1])) ∧ Below w.heap.size w w' := by
  obtain ⟨h1, h2, h3, h4, ht, hk⟩ := hp
  have ht1 : t < w.heap.size + 1 := by omega
  have ht2 : t < w.heap.size + 1 + 1 := by omega
  have hk1 : k < w.heap.size + 1 := by omega
  have hk2 : k < w.heap.size + 1 + 1 := by omega
  have hk3 : k < w.heap.size + 1 + 1 + 1 := by omega
  have hk4 : k < w.heap.size + 1 + 1 + 1 + 1 := by omega
  have hk5 : k < w.heap.size + 1 + 1 + 1 + 1 + 1 := by omega
  obtain ⟨i0, hi0, hz0, hz1, hz2⟩ := info_parts info44
  obtain ⟨i1, hi1, hy0, hy1, hy2⟩ := info_parts info48
  go_enter Tryz.func14, Tryz.ntmps14
  go_wp2
  refine wp_loop_rounds 2 ?_
  rw [rounds_succ]
  go_wp2_with (go_at_call 31; refine (clone_ints _).mono ?_; rintro e w' ⟨rfl, rfl⟩)
  rw [rounds_succ]
  go_wp2_with fail
  refine wp_loop_rounds 2 ?_
  rw [rounds_succ]
  go_wp2_with (go_at_call 34; refine (clone_chords _).mono ?_; rintro e w' ⟨rfl, rfl⟩)
  refine wp_loop_rounds 1 ?_
  rw [rounds_succ]
  go_wp2_with fail
  rw [rounds_succ]
  go_wp2_with fail
  refine bodyPost_ret (v := .agg #[.slice (some ⟨w.heap.size + 1 + 1 + 1 + 1, 0, none⟩) 1 ((Question.appendCap 1 0 44).cut (w.tape w.drawn (Question.appendCap 1 0 44))), .slice (some ⟨w.heap.size + 1 + 1 + 1 + 1 + 1 + 1 + 1, 0, none⟩) 1 ((Question.appendCap 1 0 48).cut (w.tape (w.drawn + 1) (Question.appendCap 1 0 48)))])
    (by simp [results, Tryz.results14, go_sem]) rfl ⟨⟨_, _, _, _, rfl⟩, ?_⟩
  repeat (first | exact Below.refl _ _ | refine Below.drew ?_ | refine Below.alloc ?_ (by simp <;> omega) _)
end Go.Proofs.YtoaaiffbgiehpaaGreatDoor
