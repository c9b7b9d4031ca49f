/- What New and Next do to a policy of each kind, as awake asks them. -/
import Derived.Test.YtoaaiffbgiehpaaGreatDoorW6
namespace Go.Proofs.YtoaaiffbgiehpaaGreatDoor
open Go.RowKit

/-- What the policy at block b keeps, after k picks: kinds 0 to 4 for First, Last, Turns, Lot, Old. -/
def St (i k b : Nat) (W : World) : Prop :=
  match i with
  | 0 => W.cell? ⟨b, 0, none⟩ = some (.iface 65 (.agg #[])) ∧ b < W.heap.size
  | 1 => W.cell? ⟨b, 0, none⟩ = some (.iface 66 (.agg #[])) ∧ b < W.heap.size
  | 2 => W.cell? ⟨b, 0, none⟩ = some (.iface 67 (.pointer (some ⟨b + 1, 0, none⟩))) ∧ W.cell? ⟨b + 1, 0, none⟩ = some (.int .i64 (if k = 0 then -1 else if k = 2 then 2 else 0)) ∧ W.frozen? ⟨b + 1, 0, none⟩ = false ∧ b + 1 < W.heap.size
  | 3 => W.cell? ⟨b, 0, none⟩ = some (.iface 70 (.pointer (some ⟨b + 1, 0, none⟩))) ∧ W.cell? ⟨b + 1, 0, none⟩ = some (.int .u64 (if k = 0 then 0 else if k = 1 then 1442695040888963407 else if k = 2 then 1876011003808476466 else 11166244414315200793)) ∧ W.frozen? ⟨b + 1, 0, none⟩ = false ∧ b + 1 < W.heap.size
  | _ => W.cell? ⟨b, 0, none⟩ = some (.iface 73 (.pointer (some ⟨b + 2, 0, none⟩))) ∧ W.cell? ⟨b + 2, 0, none⟩ = some (.int .i64 k) ∧ W.cell? ⟨b + 2, 1, none⟩ = some (.map (some (b + 1))) ∧ W.frozen? ⟨b + 2, 0, none⟩ = false ∧
      W.heap[b + 1]? = some (.map (if k = 0 then #[] else if k = 1 then #[ent 0 1 1 0] else if k = 2 then #[ent 0 1 1 0, ent 2 0 2 1] else #[ent 0 1 1 0, ent 2 0 2 1, ent 2 3 3 2]) k) ∧ b + 2 < W.heap.size

/-- The place that kind i names at pick k. -/
def want (i k : Nat) : Int :=
  match i, k with
  | 1, _ => 2
  | 2, 1 => 1
  | 3, 0 => 2
  | 3, 2 => 1
  | 4, 1 => 1
  | 4, 2 => 2
  | _, _ => 0

def NewPost (i : Nat) (w : World) (e : Ending) (w' : World) : Prop :=
  e = .returned (.tuple #[.pointer (some ⟨w.heap.size, 0, none⟩), .int .i64 0]) ∧ St i 0 w.heap.size w' ∧ Below w.heap.size w w'

set_option maxHeartbeats 400000 in
theorem new_1 (s : Value) (w : World) : Calls Tryz.prog 7 #[.int .i64 1, s] w (NewPost 0 w) := by
  go_enter Tryz.func7, Tryz.ntmps7
  go_wp2
  go_ret2
  exact ⟨rfl, ⟨by simp, by simp⟩, (Below.refl _ _).alloc (Nat.le_refl _) _⟩
set_option maxHeartbeats 400000 in
theorem new_2 (s : Value) (w : World) : Calls Tryz.prog 7 #[.int .i64 2, s] w (NewPost 1 w) := by
  go_enter Tryz.func7, Tryz.ntmps7
  go_wp2
  go_ret2
  exact ⟨rfl, ⟨by simp, by simp⟩, (Below.refl _ _).alloc (Nat.le_refl _) _⟩
set_option maxHeartbeats 400000 in
theorem new_3 (s : Value) (w : World) : Calls Tryz.prog 7 #[.int .i64 3, s] w (NewPost 2 w) := by
  go_enter Tryz.func7, Tryz.ntmps7
  go_wp2
  go_ret2
  refine ⟨rfl, ⟨?_, ?_, ?_, by simp⟩, ((Below.refl _ _).alloc (Nat.le_refl _) _).alloc (by simp) _⟩
  all_goals simp [go_sem]
set_option maxHeartbeats 400000 in
theorem new_4 (s : Int) (hs : s = 0) (w : World) : Calls Tryz.prog 7 #[.int .i64 4, .int .u64 s] w (NewPost 3 w) := by
  subst hs
  go_enter Tryz.func7, Tryz.ntmps7
  go_wp2
  go_ret2
  refine ⟨rfl, ⟨?_, ?_, ?_, by simp⟩, ((Below.refl _ _).alloc (Nat.le_refl _) _).alloc (by simp) _⟩
  all_goals simp [go_sem]
set_option maxHeartbeats 400000 in
theorem new_5 (s : Value) (w : World) : Calls Tryz.prog 7 #[.int .i64 5, s] w (NewPost 4 w) := by
  have hmm := @run_makeMap Tryz.prog
  go_enter Tryz.func7, Tryz.ntmps7
  go_wp2
  go_ret2
  refine ⟨rfl, ⟨?_, ?_, ?_, ?_, ?_, by simp⟩, (((Below.refl _ _).alloc (Nat.le_refl _) _).alloc (by simp) _).alloc (by simp; omega) _⟩
  · simp [go_sem]
  · simp [go_sem]
  · simp [go_sem]
  · simp [go_sem]
  · refine (Below.heap_alloc _ _ _ (by simp)).trans ?_
    have h := heap_alloc_new (w.alloc (.cells #[.iface 73 (.pointer (some ⟨w.heap.size + 1 + 1, 0, none⟩))] 60)) (.map #[] 0)
    rw [World.size_alloc] at h
    exact h

def NextPost (i k b : Nat) (w : World) (e : Ending) (w' : World) : Prop :=
  e = .returned (.tuple #[.int .i64 (want i k), .bool true]) ∧ St i (k + 1) b w' ∧ Below b w w'

theorem next_st (i k b la : Nat) (w : World) (hi : i < 5) (hk : k < 3) (hst : St i k b w) (hl : LH la w) (hla : la < b) :
    Calls Tryz.prog 5 #[.pointer (some ⟨b, 0, none⟩), .slice (some ⟨la, 0, none⟩) 3 3] w (NextPost i k b w) := by
  have hc : i = 0 ∨ i = 1 ∨ i = 2 ∨ i = 3 ∨ i = 4 := by omega
  have hd : k = 0 ∨ k = 1 ∨ k = 2 := by omega
  rcases hc with rfl | rfl | rfl | rfl | rfl
  · obtain ⟨h1, h2⟩ := hst
    refine (next_1 b _ w h1).mono fun e w' ⟨he, hB⟩ => ?_
    refine ⟨by rw [he]; rcases hd with rfl | rfl | rfl <;> rfl, ⟨(hB.cell (p := ⟨b, 0, none⟩) h2).trans h1, Nat.lt_of_lt_of_le h2 hB.size⟩, hB.mono (Nat.le_of_lt h2)⟩
  · obtain ⟨h1, h2⟩ := hst
    refine (next_2 b _ w h1).mono fun e w' ⟨he, hB⟩ => ?_
    refine ⟨by rw [he]; rcases hd with rfl | rfl | rfl <;> rfl, ⟨(hB.cell (p := ⟨b, 0, none⟩) h2).trans h1, Nat.lt_of_lt_of_le h2 hB.size⟩, hB.mono (Nat.le_of_lt h2)⟩
  · obtain ⟨h1, h2, h3, h4⟩ := hst
    have fin : ∀ r v : Int, want 2 k = r → (if k + 1 = 0 then -1 else if k + 1 = 2 then 2 else 0 : Int) = v → ∀ e w', Two r (fun w' => w'.cell? ⟨b + 1, 0, none⟩ = some (.int .i64 v) ∧ w'.frozen? ⟨b + 1, 0, none⟩ = false ∧ Below (b + 1) w w') e w' → NextPost 2 k b w e w' := by
      rintro r v rfl rfl e w' ⟨he, hc, hf, hB⟩
      exact ⟨he, ⟨(hB.cell (p := ⟨b, 0, none⟩) (Nat.lt_succ_self _)).trans h1, hc, hf, Nat.lt_of_lt_of_le h4 hB.size⟩, hB.mono (Nat.le_succ _)⟩
    rcases hd with rfl | rfl | rfl
    · exact (next_3 b (b + 1) _ 0 0 w h1 (turns_a (b + 1) la w h4 (by omega) h2 h3 hl)).mono (fin _ _ rfl rfl)
    · exact (next_3 b (b + 1) _ 1 2 w h1 (turns_b (b + 1) la w h4 (by omega) h2 h3 hl)).mono (fin _ _ rfl rfl)
    · exact (next_3 b (b + 1) _ 0 0 w h1 (turns_c (b + 1) la w h4 (by omega) h2 h3 hl)).mono (fin _ _ rfl rfl)
  · obtain ⟨h1, h2, h3, h4⟩ := hst
    have fin : ∀ r y : Int, want 3 k = r → (if k + 1 = 0 then 0 else if k + 1 = 1 then 1442695040888963407 else if k + 1 = 2 then 1876011003808476466 else 11166244414315200793 : Int) = y → ∀ e w', Two r (fun w' => w' = w.setCell ⟨b + 1, 0, none⟩ (.int .u64 y)) e w' → NextPost 3 k b w e w' := by
      rintro r y rfl rfl e w' ⟨he, rfl⟩
      refine ⟨he, ⟨?_, World.cell?_setCell_same' _ _ _ (by rw [h2]; rfl), by rw [World.frozen?_setCell]; exact h3, by rw [World.size_setCell]; exact h4⟩, (Below.refl _ _).setCell (p := ⟨b + 1, 0, none⟩) (Nat.le_succ _) _⟩
      exact (World.cell?_setCell_other _ ⟨b + 1, 0, none⟩ ⟨b, 0, none⟩ _ (by simp)).trans h1
    rcases hd with rfl | rfl | rfl
    · exact (next_4 b (b + 1) _ 0 1442695040888963407 2 lot_0 (by decide +kernel) w h1 h2 h3).mono (fin _ _ rfl rfl)
    · exact (next_4 b (b + 1) _ 1442695040888963407 1876011003808476466 0 lot_1 (by decide +kernel) w h1 h2 h3).mono (fin _ _ rfl rfl)
    · exact (next_4 b (b + 1) _ 1876011003808476466 11166244414315200793 1 lot_2 (by decide +kernel) w h1 h2 h3).mono (fin _ _ rfl rfl)
  · obtain ⟨h1, h2, h3, h4, h5, h6⟩ := hst
    have fin : ∀ (r v : Int) es clk, want 4 k = r → ((k + 1 : Nat) : Int) = v → (if k + 1 = 0 then #[] else if k + 1 = 1 then #[ent 0 1 1 0] else if k + 1 = 2 then #[ent 0 1 1 0, ent 2 0 2 1] else #[ent 0 1 1 0, ent 2 0 2 1, ent 2 3 3 2] : Array MapEntry) = es → k + 1 = clk →
        ∀ e w', Two r (fun w' => PostO (b + 2) (b + 1) w r v es clk (.returned (.int .i64 r)) w') e w' → NextPost 4 k b w e w' := by
      rintro r v es clk rfl rfl rfl rfl e w' ⟨he, _, hB, c0, c1, f0, hm, hs⟩
      exact ⟨he, ⟨(hB.cell (p := ⟨b, 0, none⟩) (Nat.lt_succ_self _)).trans h1, c0, c1, f0, hm, hs⟩, hB.mono (Nat.le_succ _)⟩
    rcases hd with rfl | rfl | rfl
    · exact (next_5 b (b + 2) (b + 1) _ 0 1 _ _ w h1 (old_0 (b + 2) (b + 1) la w h6 (by omega) (by omega) h2 h3 h4 h5 hl)).mono (fin _ _ _ _ rfl rfl rfl rfl)
    · exact (next_5 b (b + 2) (b + 1) _ 1 2 _ _ w h1 (old_1 (b + 2) (b + 1) la w h6 (by omega) (by omega) h2 h3 h4 h5 hl)).mono (fin _ _ _ _ rfl rfl rfl rfl)
    · exact (next_5 b (b + 2) (b + 1) _ 2 3 _ _ w h1 (old_2 (b + 2) (b + 1) la w h6 (by omega) (by omega) h2 h3 h4 h5 hl)).mono (fin _ _ _ _ rfl rfl rfl rfl)
end Go.Proofs.YtoaaiffbgiehpaaGreatDoor
