/- system.New of the program of one tag and one kind; what a system without actors answers; Run over it. -/
import Derived.Test.YtoaaiffbgiehpaaGreatDoorW15
namespace Go.Proofs.YtoaaiffbgiehpaaGreatDoor
open Go.RowKit
def NewSys (w : World) (e : Ending) (w' : World) : Prop :=
  ∃ b, e = .returned (.tuple #[.pointer (some ⟨b, 0, none⟩), .int .i64 0]) ∧ w'.cell? ⟨b, 2, none⟩ = some (.slice none 0 0) ∧ b < w'.heap.size ∧ Below w.heap.size w w'
set_option maxRecDepth 100000 in
set_option maxHeartbeats 1000000 in
theorem newsys_any (t k : Nat) (w : World) (hp : ProgAt t k w) :
    Calls Tryz.prog 10 #[.agg #[.slice (some ⟨t, 0, none⟩) 1 1, .slice (some ⟨k, 0, none⟩) 1 1]] w (NewSys w) := by
  have HP := Lib.hid hp
  clear hp
  go_enter Tryz.func10, Tryz.ntmps10
  go_wp2_with (first
    | (go_at_call 13; refine (validCheck_any t k _ (HP.out.below ((Below.refl _ _).alloc (Nat.le_refl _) _))).mono ?_; rintro e w1 ⟨rfl, hb⟩; have hz1 : w.heap.size < w1.heap.size := (by have h := hb.size; simp at h; omega); have q0 := (hb.cell (p := ⟨w.heap.size, 0, none⟩) (by simp)).trans (World.cell?_alloc_new _ _ _ _); have q1 := (hb.cell (p := ⟨w.heap.size, 1, none⟩) (by simp)).trans (World.cell?_alloc_new _ _ _ _); have hB1 := ((Below.refl w.heap.size w).alloc (Nat.le_refl _) (.cells #[.slice (some ⟨t, 0, none⟩) 1 1, .slice (some ⟨k, 0, none⟩) 1 1] 51)).trans (hb.mono (by simp)); have HB1 := Lib.hid hB1; clear hb hB1)
    | (go_at_call 14; refine (copied_any t k _ (HP.out.below (HB1.out.alloc HB1.out.size _))).mono ?_; rintro e w2 ⟨⟨g0, c0, g1, c1, rfl⟩, hb⟩; have HB2 := Lib.hid hb; clear hb))
  refine bodyPost_ret (v := .tuple #[.pointer (some ⟨w2.heap.size, 0, none⟩), .int .i64 0]) (by simp [results, Tryz.results10, go_sem]) rfl ⟨w2.heap.size, rfl, by simp, by simp, ?_⟩
  refine Below.alloc ?_ ?_ _
  · exact (HB1.out.alloc HB1.out.size _).trans (HB2.out.mono (by simp; omega))
  · have h := HB2.out.size; simp at h; omega
set_option maxRecDepth 100000 in
set_option maxHeartbeats 400000 in
theorem choices_any (b : Nat) (w : World) (hc : w.cell? ⟨b, 2, none⟩ = some (.slice none 0 0)) :
    Calls Tryz.prog 11 #[.pointer (some ⟨b, 0, none⟩)] w fun e w' => e = .returned (.slice none 0 0) ∧ w = w' := by
  go_enter Tryz.func11, Tryz.ntmps11
  go_wp2_with fail
  refine wp_loop_rounds 1 ?_
  rw [rounds_succ]
  go_wp2_with fail
  go_ret
  exact ⟨rfl, rfl⟩
set_option maxRecDepth 100000 in
set_option maxHeartbeats 400000 in
theorem next_empty (b : Nat) (T : TypeId) (v : Value) (w : World) (hc : w.cell? ⟨b, 0, none⟩ = some (.iface T v)) :
    Calls Tryz.prog 5 #[.pointer (some ⟨b, 0, none⟩), .slice none 0 0] w fun e w' => e = .returned (.tuple #[.int .i64 0, .bool false]) ∧ w = w' := by
  go_enter Tryz.func5, Tryz.ntmps5
  go_wp2
  go_ret2
  exact ⟨rfl, rfl⟩
set_option maxRecDepth 100000 in
set_option maxHeartbeats 400000 in
theorem run_noPolicy (b : Nat) (m : Value) (w : World) :
    Calls Tryz.prog 8 #[.pointer (some ⟨b, 0, none⟩), .pointer none, m] w fun e w' => e = .returned (.tuple #[.slice none 0 0, .int .i64 1]) ∧ w = w' := by
  go_enter Tryz.func8, Tryz.ntmps8
  go_wp2
  go_ret2
  exact ⟨rfl, rfl⟩
set_option maxRecDepth 100000 in
set_option maxHeartbeats 400000 in
theorem run_far (b pb : Nat) (m : Int) (hm : m < 0 ∨ 4096 < m) (w : World) :
    Calls Tryz.prog 8 #[.pointer (some ⟨b, 0, none⟩), .pointer (some ⟨pb, 0, none⟩), .int .i64 m] w fun e w' => e = .returned (.tuple #[.slice none 0 0, .int .i64 2]) ∧ w = w' := by
  rcases hm with hm | hm
  · go_enter Tryz.func8, Tryz.ntmps8
    go_wp2
    go_ret2
    exact ⟨rfl, rfl⟩
  · have h0 : ¬ m < 0 := by omega
    have h0' : decide (m < 0) = false := by simpa using h0
    go_enter Tryz.func8, Tryz.ntmps8
    go_wp2
    go_ret2
    exact ⟨rfl, rfl⟩
set_option maxRecDepth 100000 in
set_option maxHeartbeats 400000 in
theorem run_none (b pb : Nat) (T : TypeId) (v : Value) (m : Int) (h0 : 0 ≤ m) (h1 : m ≤ 4096) (w : World) (hb : w.cell? ⟨b, 2, none⟩ = some (.slice none 0 0)) (hc : w.cell? ⟨pb, 0, none⟩ = some (.iface T v)) :
    Calls Tryz.prog 8 #[.pointer (some ⟨b, 0, none⟩), .pointer (some ⟨pb, 0, none⟩), .int .i64 m] w fun e w' => e = .returned (.tuple #[.slice none 0 0, .int .i64 0]) ∧ w = w' := by
  have hd0 : decide (m < 0) = false := by simp; omega
  have hd1 : decide (m > 4096) = false := by simp; omega
  by_cases hm : 0 < m
  · go_enter Tryz.func8, Tryz.ntmps8
    go_wp2_with fail
    refine wp_loop_rounds 1 ?_
    rw [rounds_succ]
    go_wp2_with (first | (go_at_call 11; refine (choices_any _ _ (by assumption)).mono ?_; rintro e w' ⟨rfl, rfl⟩) | (go_at_call 5; refine (next_empty _ _ _ _ (by assumption)).mono ?_; rintro e w' ⟨rfl, rfl⟩))
    go_ret2
    exact ⟨rfl, rfl⟩
  · obtain rfl : m = 0 := by omega
    go_enter Tryz.func8, Tryz.ntmps8
    go_wp2_with fail
    refine wp_loop_rounds 1 ?_
    rw [rounds_succ]
    go_wp2_with fail
    go_ret2
    exact ⟨rfl, rfl⟩
end Go.Proofs.YtoaaiffbgiehpaaGreatDoor
