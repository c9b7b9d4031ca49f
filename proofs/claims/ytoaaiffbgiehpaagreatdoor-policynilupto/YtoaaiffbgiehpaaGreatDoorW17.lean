/- PolicyNil: the walk: it returns true whatever kind, seed, list (of which lent can make choices) and number are asked. -/
import Derived.Test.YtoaaiffbgiehpaaGreatDoorW8
import Derived.Test.YtoaaiffbgiehpaaGreatDoorW9
import Derived.Test.YtoaaiffbgiehpaaGreatDoorW16
namespace Go.Proofs.YtoaaiffbgiehpaaGreatDoor
open Go.RowKit
def NewGen (w : World) (e : Ending) (w' : World) : Prop :=
  e = .returned (.tuple #[.pointer (some ⟨w.heap.size, 0, none⟩), .int .i64 0]) ∧ (∃ T v, w'.cell? ⟨w.heap.size, 0, none⟩ = some (.iface T v)) ∧ w.heap.size < w'.heap.size ∧ Below w.heap.size w w'
theorem newGen_of {i : Nat} {s : Value} {k : Int} {w : World} (h : Calls Tryz.prog 7 #[.int .i64 k, s] w (NewPost i w)) : Calls Tryz.prog 7 #[.int .i64 k, s] w (NewGen w) := by
  refine h.mono fun e w' ⟨he, hst, hb⟩ => ⟨he, ?_, ?_, hb⟩
  · match i, hst with
    | 0, h => exact ⟨_, _, h.1⟩
    | 1, h => exact ⟨_, _, h.1⟩
    | 2, h => exact ⟨_, _, h.1⟩
    | 3, h => exact ⟨_, _, h.1⟩
    | _ + 4, h => exact ⟨_, _, h.1⟩
  · match i, hst with
    | 0, h => exact h.2
    | 1, h => exact h.2
    | 2, h => have := h.2.2.2; omega
    | 3, h => have := h.2.2.2; omega
    | _ + 4, h => have := h.2.2.2.2.2; omega
set_option maxHeartbeats 400000 in
theorem new_4g (s : Int) (w : World) : Calls Tryz.prog 7 #[.int .i64 4, .int .u64 s] w (NewGen w) := by
  go_enter Tryz.func7, Tryz.ntmps7
  go_wp2
  go_ret2
  exact ⟨rfl, ⟨70, .pointer (some ⟨w.heap.size + 1, 0, none⟩), by simp [go_sem]⟩, by simp; omega, ((Below.refl _ _).alloc (Nat.le_refl _) _).alloc (by simp) _⟩
theorem new_valid (k s : Int) (h1 : 1 ≤ k) (h5 : k ≤ 5) (w : World) : Calls Tryz.prog 7 #[.int .i64 k, .int .u64 s] w (NewGen w) := by
  have hc : k = 1 ∨ k = 2 ∨ k = 3 ∨ k = 4 ∨ k = 5 := by omega
  rcases hc with rfl | rfl | rfl | rfl | rfl
  · exact newGen_of (new_1 _ w)
  · exact newGen_of (new_2 _ w)
  · exact newGen_of (new_3 _ w)
  · exact new_4g _ w
  · exact newGen_of (new_5 _ w)
/-- What lent must give. -/
def Lent (l : Value) (w : World) : Prop := ∀ W, Below w.heap.size w W → Calls Tryz.prog 6 #[l] W fun e w' => (∃ v, e = .returned v) ∧ Below W.heap.size W w'
theorem four_new (w w1 : World) (a b c d : Value) (hb : Below (w.alloc (.cells #[a, b, c, d] 25)).heap.size (w.alloc (.cells #[a, b, c, d] 25)) w1) :
    w1.cell? ⟨w.heap.size, 0, none⟩ = some a ∧ w1.cell? ⟨w.heap.size, 1, none⟩ = some b ∧ w1.cell? ⟨w.heap.size, 2, none⟩ = some c ∧ w1.cell? ⟨w.heap.size, 3, none⟩ = some d ∧ w.heap.size < w1.heap.size ∧ Below w.heap.size w w1 := by
  have hz := hb.size
  simp at hz
  refine ⟨(hb.cell (p := ⟨w.heap.size, 0, none⟩) (by simp)).trans ?_, (hb.cell (p := ⟨w.heap.size, 1, none⟩) (by simp)).trans ?_, (hb.cell (p := ⟨w.heap.size, 2, none⟩) (by simp)).trans ?_, (hb.cell (p := ⟨w.heap.size, 3, none⟩) (by simp)).trans ?_, by omega, ((Below.refl _ _).alloc (Nat.le_refl _) _).trans (hb.mono (by simp))⟩
  all_goals rw [World.cell?_alloc_new]; rfl
theorem progAt_new (w : World) : ProgAt w.heap.size (w.heap.size + 1) ((w.alloc (.cells #[.string ⟨#[97]⟩, .slice none 0 0] 44)).alloc (.cells #[.string ⟨#[107]⟩, .slice none 0 0] 48)) := by
  refine ⟨?_, ?_, ?_, ?_, by simp <;> omega, by simp⟩ <;> simp [go_sem]

set_option maxRecDepth 100000 in
set_option maxHeartbeats 2000000 in
theorem law_far (k s m : Int) (l : Value) (w : World) (h1 : 1 ≤ k) (h5 : k ≤ 5) (hm : m < 0 ∨ 4096 < m) (hl : Lent l w) :
    Calls Tryz.prog 3 #[.agg #[.int .i64 k, .int .u64 s, l, .int .i64 m]] w fun e w' => e = .returned (.bool true) ∧ Below w.heap.size w w' := by
  have HL := Lib.hid hl
  clear hl
  have HM := Lib.hid hm
  clear hm
  go_enter Tryz.func3, Tryz.ntmps3
  go_wp2_with (first
    | (go_at_call 4; refine (awake_any _).mono ?_; rintro e w1 ⟨rfl, hb⟩; obtain ⟨q0, q1, q2, q3, hz1, hB1⟩ := four_new _ _ _ _ _ _ hb; have HB1 := Lib.hid hB1; clear hb hB1)
    | (go_at_call 6; refine (HL.out _ HB1.out).mono ?_; rintro e w2 ⟨⟨v, rfl⟩, hb⟩; have HB2 := Lib.hid hb; clear hb)
    | (go_at_call 5; refine (next_nil _ _).mono ?_; rintro e w' ⟨rfl, rfl⟩)
    | (go_at_call 7; refine (new_valid _ _ h1 h5 _).mono ?_; rintro e w3 ⟨rfl, ⟨T, x, hp⟩, hz3, hb⟩; have HB3 := Lib.hid hb; clear hb)
    | (go_at_call 8; ((with_reducible refine (run_nil _ _ _).mono ?_); rintro e w' ⟨rfl, rfl⟩))
    | (go_at_call 9; refine (copy_nil _).mono ?_; rintro e w' ⟨rfl, rfl⟩)
    | (go_at_call 10; refine (newsys_any w3.heap.size (w3.heap.size + 1) _ (progAt_new w3)).mono ?_; rintro e w4 ⟨sb, rfl, hs, hsl, hb⟩; have HB4 := Lib.hid hb; clear hb)
    | (go_at_call 8; ((with_reducible refine (run_far _ _ _ HM.out _).mono ?_); rintro e w' ⟨rfl, rfl⟩)))
  all_goals first
    | (exfalso; have h := HM.out; omega)
    | (go_ret
       refine ⟨rfl, ?_⟩
       refine ((HB1.out.trans (HB2.out.mono (by omega))).trans (HB3.out.mono ?_)).trans ((((Below.refl _ w3).alloc ?_ _).alloc ?_ _).trans (HB4.out.mono ?_))
       all_goals have h2 := HB2.out.size
       all_goals have h3 := HB3.out.size
       all_goals simp
       all_goals omega)
set_option maxRecDepth 100000 in
set_option maxHeartbeats 2000000 in
theorem law_near (k s m : Int) (l : Value) (w : World) (h1 : 1 ≤ k) (h5 : k ≤ 5) (m0 : 0 ≤ m) (m1 : m ≤ 4096) (hl : Lent l w) :
    Calls Tryz.prog 3 #[.agg #[.int .i64 k, .int .u64 s, l, .int .i64 m]] w fun e w' => e = .returned (.bool true) ∧ Below w.heap.size w w' := by
  have HL := Lib.hid hl
  clear hl
  have hd0 : decide (m < 0) = false := by simp; omega
  have hd1 : decide (m > 4096) = false := by simp; omega
  go_enter Tryz.func3, Tryz.ntmps3
  go_wp2_with (first
    | (go_at_call 4; refine (awake_any _).mono ?_; rintro e w1 ⟨rfl, hb⟩; obtain ⟨q0, q1, q2, q3, hz1, hB1⟩ := four_new _ _ _ _ _ _ hb; have HB1 := Lib.hid hB1; clear hb hB1)
    | (go_at_call 6; refine (HL.out _ HB1.out).mono ?_; rintro e w2 ⟨⟨v, rfl⟩, hb⟩; have HB2 := Lib.hid hb; clear hb)
    | (go_at_call 5; refine (next_nil _ _).mono ?_; rintro e w' ⟨rfl, rfl⟩)
    | (go_at_call 7; refine (new_valid _ _ h1 h5 _).mono ?_; rintro e w3 ⟨rfl, ⟨T, x, hp⟩, hz3, hb⟩; have HB3 := Lib.hid hb; clear hb)
    | (go_at_call 8; ((with_reducible refine (run_nil _ _ _).mono ?_); rintro e w' ⟨rfl, rfl⟩))
    | (go_at_call 9; refine (copy_nil _).mono ?_; rintro e w' ⟨rfl, rfl⟩)
    | (go_at_call 10; refine (newsys_any w3.heap.size (w3.heap.size + 1) _ (progAt_new w3)).mono ?_; rintro e w4 ⟨sb, rfl, hs, hsl, hb⟩; have hp4 := (hb.cell (p := ⟨w2.heap.size, 0, none⟩) (by simp; omega)).trans (((((Below.refl w3.heap.size w3).alloc (Nat.le_refl _) (.cells #[.string ⟨#[97]⟩, .slice none 0 0] 44)).alloc (by simp) (.cells #[.string ⟨#[107]⟩, .slice none 0 0] 48)).cell (p := ⟨w2.heap.size, 0, none⟩) hz3).trans hp); have HB4 := Lib.hid hb; clear hb)
    | (go_at_call 8; ((with_reducible refine (run_none _ _ _ _ _ m0 m1 _ (by assumption) (by assumption)).mono ?_); rintro e w' ⟨rfl, rfl⟩)))
  all_goals first
    | (go_ret
       refine ⟨rfl, ?_⟩
       refine ((HB1.out.trans (HB2.out.mono (by omega))).trans (HB3.out.mono ?_)).trans ((((Below.refl _ w3).alloc ?_ _).alloc ?_ _).trans (HB4.out.mono ?_))
       all_goals have h2 := HB2.out.size
       all_goals have h3 := HB3.out.size
       all_goals simp
       all_goals omega)
set_option maxRecDepth 100000 in
set_option maxHeartbeats 2000000 in
theorem law_bad (k s m : Int) (l : Value) (w : World) (hk : k < 1 ∨ 5 < k) (hl : Lent l w) :
    Calls Tryz.prog 3 #[.agg #[.int .i64 k, .int .u64 s, l, .int .i64 m]] w fun e w' => e = .returned (.bool true) ∧ Below w.heap.size w w' := by
  have HL := Lib.hid hl
  clear hl
  have HK := Lib.hid hk
  clear hk
  go_enter Tryz.func3, Tryz.ntmps3
  go_wp2_with (first
    | (go_at_call 4; refine (awake_any _).mono ?_; rintro e w1 ⟨rfl, hb⟩; obtain ⟨q0, q1, q2, q3, hz1, hB1⟩ := four_new _ _ _ _ _ _ hb; have HB1 := Lib.hid hB1; clear hb hB1)
    | (go_at_call 6; refine (HL.out _ HB1.out).mono ?_; rintro e w2 ⟨⟨v, rfl⟩, hb⟩; have HB2 := Lib.hid hb; clear hb)
    | (go_at_call 5; refine (next_nil _ _).mono ?_; rintro e w' ⟨rfl, rfl⟩)
    | (go_at_call 7; refine (new_other _ _ _ HK.out).mono ?_; rintro e w3 ⟨rfl, hb⟩; have HB3 := Lib.hid hb; clear hb)
    | (go_at_call 8; ((with_reducible refine (run_nil _ _ _).mono ?_); rintro e w' ⟨rfl, rfl⟩))
    | (go_at_call 9; refine (copy_nil _).mono ?_; rintro e w' ⟨rfl, rfl⟩)
    | (go_at_call 10; refine (newsys_any w3.heap.size (w3.heap.size + 1) _ (progAt_new w3)).mono ?_; rintro e w4 ⟨sb, rfl, hs, hsl, hb⟩; have HB4 := Lib.hid hb; clear hb)
    | (go_at_call 8; ((with_reducible refine (run_noPolicy _ _ _).mono ?_); rintro e w' ⟨rfl, rfl⟩)))
  all_goals first
    | (exfalso; have h := HK.out; omega)
    | (go_ret
       refine ⟨rfl, ?_⟩
       refine ((HB1.out.trans (HB2.out.mono (by omega))).trans (HB3.out.mono ?_)).trans ((((Below.refl _ w3).alloc ?_ _).alloc ?_ _).trans (HB4.out.mono ?_))
       all_goals have h2 := HB2.out.size
       all_goals have h3 := HB3.out.size
       all_goals simp
       all_goals omega)
end Go.Proofs.YtoaaiffbgiehpaaGreatDoor
