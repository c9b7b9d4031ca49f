/- valid.Check of the program of one tag and one kind, and a copy of it. -/
import Derived.Test.YtoaaiffbgiehpaaGreatDoorW13
namespace Go.Proofs.YtoaaiffbgiehpaaGreatDoor
open Go.RowKit
/-- The program in memory: a row of one tag at block t, one of one kind at block k. -/
def ProgAt (t k : Nat) (w : World) : Prop :=
  w.cell? ⟨t, 0, none⟩ = some (.string ⟨#[97]⟩) ∧ w.cell? ⟨t, 1, none⟩ = some (.slice none 0 0) ∧ w.cell? ⟨k, 0, none⟩ = some (.string ⟨#[107]⟩) ∧ w.cell? ⟨k, 1, none⟩ = some (.slice none 0 0) ∧ t < w.heap.size ∧ k < w.heap.size
theorem ProgAt.below {t k : Nat} {w w' : World} (h : ProgAt t k w) (hb : Below w.heap.size w w') : ProgAt t k w' := by
  obtain ⟨h1, h2, h3, h4, ht, hk⟩ := h
  have hz := hb.size
  exact ⟨(hb.cell (p := ⟨t, 0, none⟩) ht).trans h1, (hb.cell (p := ⟨t, 1, none⟩) ht).trans h2, (hb.cell (p := ⟨k, 0, none⟩) hk).trans h3, (hb.cell (p := ⟨k, 1, none⟩) hk).trans h4, by omega, by omega⟩
set_option maxRecDepth 100000 in
set_option maxHeartbeats 400000 in
theorem tag1_any (nb : Nat) (w : World) (hn : w.cell? ⟨nb, 0, none⟩ = some (.string ⟨#[97]⟩)) (hlt : nb < w.heap.size) :
    Calls Tryz.prog 85 #[.agg #[.string ⟨#[97]⟩, .slice none 0 0], .pointer (some ⟨nb, 0, none⟩)] w fun e w' => e = .returned (.bool true) ∧ Below w.heap.size w w' := by
  go_enter Tryz.func85, Tryz.ntmps85
  go_wp2
  go_ret
  exact ⟨rfl, (Below.refl _ _).alloc (Nat.le_refl _) _⟩
set_option maxRecDepth 100000 in
set_option maxHeartbeats 400000 in
theorem kind1_any (nb : Nat) (w : World) (hn : w.cell? ⟨nb, 0, none⟩ = some (.string ⟨#[107]⟩)) (hlt : nb < w.heap.size) :
    Calls Tryz.prog 90 #[.agg #[.string ⟨#[107]⟩, .slice none 0 0], .pointer (some ⟨nb, 0, none⟩)] w fun e w' => e = .returned (.bool true) ∧ Below w.heap.size w w' := by
  go_enter Tryz.func90, Tryz.ntmps90
  go_wp2
  go_ret
  exact ⟨rfl, (Below.refl _ _).alloc (Nat.le_refl _) _⟩
set_option maxRecDepth 100000 in
set_option maxHeartbeats 400000 in
theorem index_tag (t nb : Nat) (w : World) (h0 : w.cell? ⟨t, 0, none⟩ = some (.string ⟨#[97]⟩)) (h1 : w.cell? ⟨t, 1, none⟩ = some (.slice none 0 0)) (hn : w.cell? ⟨nb, 0, none⟩ = some (.string ⟨#[97]⟩)) (hlt : nb < w.heap.size) :
    Calls Tryz.prog 84 #[.slice (some ⟨t, 0, none⟩) 1 1, .func (.func 85) #[] #[.pointer (some ⟨nb, 0, none⟩)]] w fun e w' => e = .returned (.int .i64 0) ∧ Below w.heap.size w w' := by
  go_enter Tryz.func84, Tryz.ntmps84
  go_wp2
  refine wp_loop_rounds 1 ?_
  rw [rounds_succ]
  go_wp2_with (go_at_call 85; refine (tag1_any _ _ (by assumption) (by assumption)).mono ?_; rintro e w1 ⟨rfl, hb⟩; have HB := Lib.hid hb; clear hb)
  go_ret
  exact ⟨rfl, HB.out⟩
set_option maxRecDepth 100000 in
set_option maxHeartbeats 400000 in
theorem index_kind (t nb : Nat) (w : World) (h0 : w.cell? ⟨t, 0, none⟩ = some (.string ⟨#[107]⟩)) (h1 : w.cell? ⟨t, 1, none⟩ = some (.slice none 0 0)) (hn : w.cell? ⟨nb, 0, none⟩ = some (.string ⟨#[107]⟩)) (hlt : nb < w.heap.size) :
    Calls Tryz.prog 89 #[.slice (some ⟨t, 0, none⟩) 1 1, .func (.func 90) #[] #[.pointer (some ⟨nb, 0, none⟩)]] w fun e w' => e = .returned (.int .i64 0) ∧ Below w.heap.size w w' := by
  go_enter Tryz.func89, Tryz.ntmps89
  go_wp2
  refine wp_loop_rounds 1 ?_
  rw [rounds_succ]
  go_wp2_with (go_at_call 90; refine (kind1_any _ _ (by assumption) (by assumption)).mono ?_; rintro e w1 ⟨rfl, hb⟩; have HB := Lib.hid hb; clear hb)
  go_ret
  exact ⟨rfl, HB.out⟩
set_option maxRecDepth 100000 in
set_option maxHeartbeats 400000 in
theorem Tag_any (t k : Nat) (w : World) (hp : ProgAt t k w) :
    Calls Tryz.prog 57 #[.agg #[.slice (some ⟨t, 0, none⟩) 1 1, .slice (some ⟨k, 0, none⟩) 1 1], .string ⟨#[97]⟩] w fun e w' => e = .returned (.tuple #[.int .i64 0, .bool true]) ∧ Below w.heap.size w w' := by
  obtain ⟨h1, h2, h3, h4, ht, hk⟩ := hp
  go_enter Tryz.func57, Tryz.ntmps57
  go_wp2_with (go_at_call 84; refine (index_tag _ _ _ ?_ ?_ ?_ ?_).mono ?_; simp [go_sem, h1, ht]; simp [go_sem, h2, ht]; simp [go_sem]; simp; rintro e w1 ⟨rfl, hb⟩; have HB := Lib.hid hb; clear hb)
  go_ret2
  exact ⟨rfl, ((((Below.refl _ _).alloc (Nat.le_refl _) _).alloc (by simp) _).trans (HB.out.mono (by simp; omega)))⟩
set_option maxRecDepth 100000 in
set_option maxHeartbeats 400000 in
theorem Kind_any (t k : Nat) (w : World) (hp : ProgAt t k w) :
    Calls Tryz.prog 61 #[.agg #[.slice (some ⟨t, 0, none⟩) 1 1, .slice (some ⟨k, 0, none⟩) 1 1], .string ⟨#[107]⟩] w fun e w' => e = .returned (.tuple #[.int .i64 0, .bool true]) ∧ Below w.heap.size w w' := by
  obtain ⟨h1, h2, h3, h4, ht, hk⟩ := hp
  go_enter Tryz.func61, Tryz.ntmps61
  go_wp2_with (go_at_call 89; refine (index_kind _ _ _ ?_ ?_ ?_ ?_).mono ?_; simp [go_sem, h3, hk]; simp [go_sem, h4, hk]; simp [go_sem]; simp; rintro e w1 ⟨rfl, hb⟩; have HB := Lib.hid hb; clear hb)
  go_ret2
  exact ⟨rfl, ((((Below.refl _ _).alloc (Nat.le_refl _) _).alloc (by simp) _).trans (HB.out.mono (by simp; omega)))⟩
/-- Two new blocks, as they lie in a later world. -/
theorem two_blocks (w w1 : World) (a b : Array Value) (ta tb : TypeId) (hb : Below ((w.alloc (.cells a ta)).alloc (.cells b tb)).heap.size ((w.alloc (.cells a ta)).alloc (.cells b tb)) w1) :
    (∀ j, w1.cell? ⟨w.heap.size, j, none⟩ = a[j]?) ∧ (∀ j, w1.cell? ⟨w.heap.size + 1, j, none⟩ = b[j]?) ∧ w.heap.size + 1 < w1.heap.size ∧ Below w.heap.size w w1 ∧ (∀ j, w1.frozen? ⟨w.heap.size + 1, j, none⟩ = false) := by
  have hz := hb.size
  simp at hz
  refine ⟨fun j => (hb.cell (p := ⟨w.heap.size, j, none⟩) (by simp; omega)).trans ?_, fun j => (hb.cell (p := ⟨w.heap.size + 1, j, none⟩) (by simp)).trans ?_, by omega, (((Below.refl _ _).alloc (Nat.le_refl _) _).alloc (by simp) _).trans (hb.mono (by simp; omega)), fun j => (hb.frozen (p := ⟨w.heap.size + 1, j, none⟩) (by simp)).trans ?_⟩
  all_goals simp [go_sem]
set_option maxHeartbeats 400000 in
theorem contains_nil (f : Value) (w : World) : Calls Tryz.prog 59 #[.slice none 0 0, f] w fun e w' => e = .returned (.bool false) ∧ w = w' := by
  go_enter Tryz.func59, Tryz.ntmps59
  go_wp2_with fail
  go_in
  go_wp2
  refine wp_loop_rounds 1 ?_
  rw [rounds_succ]
  go_wp2
  go_ret
  exact ⟨rfl, rfl⟩
set_option maxRecDepth 100000 in
set_option maxHeartbeats 1000000 in
theorem tag_any (t k : Nat) (w : World) (hp : ProgAt t k w) :
    Calls Tryz.prog 28 #[.agg #[.slice (some ⟨t, 0, none⟩) 1 1, .slice (some ⟨k, 0, none⟩) 1 1], .int .i64 0] w fun e w' => e = .returned (.int .i64 0) ∧ Below w.heap.size w w' := by
  have HP := Lib.hid hp
  obtain ⟨h1, h2, h3, h4, ht, hk⟩ := hp
  go_enter Tryz.func28, Tryz.ntmps28
  go_wp2_with (first
    | (go_at_call 57; refine (Tag_any t k _ (HP.out.below (((Below.refl _ _).alloc (Nat.le_refl _) _).alloc (by simp) _))).mono ?_; rintro e w1 ⟨rfl, hb⟩; obtain ⟨q0, q1, hz1, hB1, q2⟩ := two_blocks _ _ _ _ _ _ hb; have HB1 := Lib.hid hB1; clear hb hB1 q2)
    | (go_at_call 58; refine (word_a _).mono ?_; rintro e w2 ⟨rfl, hb⟩; have r0 := fun j => (hb.cell (p := ⟨w.heap.size, j, none⟩) (by simp; omega)).trans (q0 j); have r1 := fun j => (hb.cell (p := ⟨w.heap.size + 1, j, none⟩) (by simp; omega)).trans (q1 j); have HB2 := Lib.hid hb; clear hb q0 q1)
    | (go_at_call 59; refine (contains_nil _ _).mono ?_; rintro e w' ⟨rfl, rfl⟩))
  go_ret
  exact ⟨rfl, HB1.out.trans (HB2.out.mono (by omega))⟩
set_option maxRecDepth 100000 in
set_option maxHeartbeats 1000000 in
theorem kind_any (t k : Nat) (w : World) (hp : ProgAt t k w) :
    Calls Tryz.prog 29 #[.agg #[.slice (some ⟨t, 0, none⟩) 1 1, .slice (some ⟨k, 0, none⟩) 1 1], .int .i64 0] w fun e w' => e = .returned (.int .i64 0) ∧ Below w.heap.size w w' := by
  have HP := Lib.hid hp
  obtain ⟨h1, h2, h3, h4, ht, hk⟩ := hp
  go_enter Tryz.func29, Tryz.ntmps29
  go_wp2_with (first
    | (go_at_call 61; refine (Kind_any t k _ (HP.out.below (((Below.refl _ _).alloc (Nat.le_refl _) _).alloc (by simp) _))).mono ?_; rintro e w1 ⟨rfl, hb⟩; obtain ⟨q0, q1, hz1, hB1, q2⟩ := two_blocks _ _ _ _ _ _ hb; have HB1 := Lib.hid hB1; clear hb hB1 q2)
    | (go_at_call 58; refine (word_k _).mono ?_; rintro e w2 ⟨rfl, hb⟩; have r0 := fun j => (hb.cell (p := ⟨w.heap.size, j, none⟩) (by simp; omega)).trans (q0 j); have r1 := fun j => (hb.cell (p := ⟨w.heap.size + 1, j, none⟩) (by simp; omega)).trans (q1 j); have HB2 := Lib.hid hb; clear hb q0 q1))
  go_ret
  exact ⟨rfl, HB1.out.trans (HB2.out.mono (by omega))⟩
/-- No place. -/
def noPlace : Value := .agg #[.int .i64 0, .int .i64 0, .int .i64 0, .int .i64 0, .int .i64 0, .int .i64 0, .int .i64 0]
set_option maxRecDepth 100000 in
set_option maxHeartbeats 1000000 in
theorem chords_any (t k : Nat) (w : World) (hp : ProgAt t k w) :
    Calls Tryz.prog 30 #[.agg #[.slice (some ⟨t, 0, none⟩) 1 1, .slice (some ⟨k, 0, none⟩) 1 1], .int .i64 0] w fun e w' => e = .returned (.tuple #[.agg #[.int .i64 0, .int .i64 0, .int .i64 0, .int .i64 0, .int .i64 0, .int .i64 0, .int .i64 0], .int .i64 0]) ∧ Below w.heap.size w w' := by
  obtain ⟨h1, h2, h3, h4, ht, hk⟩ := hp
  go_enter Tryz.func30, Tryz.ntmps30
  go_wp2
  refine wp_loop_rounds 1 ?_
  rw [rounds_succ]
  go_wp2
  refine bodyPost_ret (v := .tuple #[.agg #[.int .i64 0, .int .i64 0, .int .i64 0, .int .i64 0, .int .i64 0, .int .i64 0, .int .i64 0], .int .i64 0]) (by simp [results, Tryz.results30, go_sem]) rfl ⟨rfl, ?_⟩
  exact ((Below.refl _ _).alloc (Nat.le_refl _) _).alloc (by simp) _
set_option maxRecDepth 100000 in
set_option maxHeartbeats 2000000 in
theorem validCheck_any (t k : Nat) (w : World) (hp : ProgAt t k w) :
    Calls Tryz.prog 13 #[.agg #[.slice (some ⟨t, 0, none⟩) 1 1, .slice (some ⟨k, 0, none⟩) 1 1]] w fun e w' => e = .returned (.tuple #[.agg #[.int .i64 0, .int .i64 0, .int .i64 0, .int .i64 0, .int .i64 0, .int .i64 0, .int .i64 0], .int .i64 0]) ∧ Below w.heap.size w w' := by
  have HP := Lib.hid hp
  clear hp
  go_enter Tryz.func13, Tryz.ntmps13
  go_wp2
  refine wp_loop_rounds 2 ?_
  rw [rounds_succ]
  go_wp2_with (go_at_call 28; refine (tag_any t k _ (HP.out.below (((Below.refl _ _).alloc (Nat.le_refl _) _).alloc (by simp) _))).mono ?_; rintro e w1 ⟨rfl, hb⟩; obtain ⟨q0, q1, hz1, hB1, q2⟩ := two_blocks _ _ _ _ _ _ hb; have HB1 := Lib.hid hB1; clear hb hB1)
  rw [rounds_succ]
  go_wp2
  refine wp_loop_rounds 2 ?_
  rw [rounds_succ]
  go_wp2_with (first
    | (go_at_call 29; refine (kind_any t k _ (HP.out.below HB1.out)).mono ?_; rintro e w2 ⟨rfl, hb⟩; have hz2 := hb.size; have r0 := fun j => (hb.cell (p := ⟨w.heap.size, j, none⟩) (by simp; omega)).trans (q0 j); have r1 := fun j => (hb.cell (p := ⟨w.heap.size + 1, j, none⟩) (by simp; omega)).trans (q1 j); have r2 := fun j => (hb.frozen (p := ⟨w.heap.size + 1, j, none⟩) (by simp; omega)).trans (q2 j); have HB2 := Lib.hid hb; clear hb q0 q1 q2)
    | (go_at_call 30; go_must (refine (chords_any t k _ (HP.out.below (HB1.out.trans (HB2.out.mono (by omega))))).mono ?_); rintro e w3 ⟨rfl, hb⟩; have hz3 := hb.size; have hy3 : w.heap.size + 1 < w3.heap.size := Nat.lt_of_lt_of_le hz1 (Nat.le_trans hz2 hz3); have s0 := fun j => (hb.cell (p := ⟨w.heap.size, j, none⟩) (by simp; omega)).trans (r0 j); have s1 := fun j => (hb.cell (p := ⟨w.heap.size + 1, j, none⟩) (by simp; omega)).trans (r1 j); have s2 := fun j => (hb.frozen (p := ⟨w.heap.size + 1, j, none⟩) (by simp; omega)).trans (r2 j); have HB3 := Lib.hid hb; clear hb r0 r1 r2))
  rw [rounds_succ]
  go_wp2
  refine bodyPost_ret (v := .tuple #[.agg #[.int .i64 0, .int .i64 0, .int .i64 0, .int .i64 0, .int .i64 0, .int .i64 0, .int .i64 0], .int .i64 0]) (by simp [results, Tryz.results13, go_sem, s1, hy3]) rfl ⟨rfl, ?_⟩
  have hz : w.heap.size ≤ w3.heap.size := by omega
  have hB3 := (HB1.out.trans (HB2.out.mono (by omega))).trans (HB3.out.mono (by omega))
  refine Below.alloc ?_ (by simp; omega) _
  exact ((((((hB3.setCell (p := ⟨w.heap.size + 1, 0, none⟩) (Nat.le_succ _) _).setCell (p := ⟨w.heap.size + 1, 1, none⟩) (Nat.le_succ _) _).setCell (p := ⟨w.heap.size + 1, 2, none⟩) (Nat.le_succ _) _).setCell (p := ⟨w.heap.size + 1, 3, none⟩) (Nat.le_succ _) _).setCell (p := ⟨w.heap.size + 1, 4, none⟩) (Nat.le_succ _) _).setCell (p := ⟨w.heap.size + 1, 5, none⟩) (Nat.le_succ _) _).setCell (p := ⟨w.heap.size + 1, 6, none⟩) (Nat.le_succ _) _
end Go.Proofs.YtoaaiffbgiehpaaGreatDoor
