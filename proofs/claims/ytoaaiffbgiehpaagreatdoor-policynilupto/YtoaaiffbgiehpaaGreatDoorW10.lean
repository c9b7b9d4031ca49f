/- The lexer at a text of one letter: the name that it begins with, and the token. -/
import Derived.Test.YtoaaiffbgiehpaaGreatDoorW1
import Derived.Deep.RegionHeld3
import Derived.Lib.Hide
import Derived.ScopeJumps
import Derived.WalkMore
namespace Go.Proofs.YtoaaiffbgiehpaaGreatDoor
open Go.RowKit
/-- A store of a float: the walk's laws have it for the other kinds of one cell. -/
theorem run_store_float {P : Program} {w : World} {a : Addr} {m : Mode} (k : FloatKind) (n : Nat) : (store a (.float k n) m).run P w = stored P w a (.float k n) m := run_store P w a _ m rfl
attribute [local go_sem] run_store_float

/-- Two new blocks of tokens, as they lie in a later world. -/
theorem two_six (w w1 : World) (a b : Array Value) (hb : Below ((w.alloc (.cells a 240)).alloc (.cells b 240)).heap.size ((w.alloc (.cells a 240)).alloc (.cells b 240)) w1) :
    (∀ j, w1.cell? ⟨w.heap.size, j, none⟩ = a[j]?) ∧ (∀ j, w1.cell? ⟨w.heap.size + 1, j, none⟩ = b[j]?) ∧ (∀ j, w1.frozen? ⟨w.heap.size, j, none⟩ = false) ∧ (∀ j, w1.frozen? ⟨w.heap.size + 1, j, none⟩ = false) ∧ w.heap.size + 1 < w1.heap.size := by
  have hz := hb.size
  simp at hz
  refine ⟨fun j => (hb.cell (p := ⟨w.heap.size, j, none⟩) (by simp; omega)).trans ?_, fun j => (hb.cell (p := ⟨w.heap.size + 1, j, none⟩) (by simp)).trans ?_, fun j => (hb.frozen (p := ⟨w.heap.size, j, none⟩) (by simp; omega)).trans ?_, fun j => (hb.frozen (p := ⟨w.heap.size + 1, j, none⟩) (by simp)).trans ?_, by omega⟩
  all_goals simp [go_sem]

theorem jump_here {l : Nat} {J : Act → World → Prop} {Q : Exit → Act → World → Prop} {a : Act} {w : World} (h : J a w) : Exit.jump l J Q (.goto l) a w := ⟨rfl, h⟩

/-- The six stores of a token into a block. -/
def put6 (W : World) (b : Nat) (v0 v1 v2 v3 v4 v5 : Value) : World :=
  (((((W.setCell ⟨b, 0, none⟩ v0).setCell ⟨b, 1, none⟩ v1).setCell ⟨b, 2, none⟩ v2).setCell ⟨b, 3, none⟩ v3).setCell ⟨b, 4, none⟩ v4).setCell ⟨b, 5, none⟩ v5
theorem put6_frozen (W : World) (b : Nat) (v0 v1 v2 v3 v4 v5 : Value) (a : Addr) : (put6 W b v0 v1 v2 v3 v4 v5).frozen? a = W.frozen? a := by
  simp only [put6, World.frozen?_setCell]
theorem put6_size (W : World) (b : Nat) (v0 v1 v2 v3 v4 v5 : Value) : (put6 W b v0 v1 v2 v3 v4 v5).heap.size = W.heap.size := by
  simp only [put6, World.size_setCell]
theorem put6_below (W : World) (b : Nat) (v0 v1 v2 v3 v4 v5 : Value) (B : Nat) (h : B ≤ b) : Below B W (put6 W b v0 v1 v2 v3 v4 v5) :=
  ((((((Below.refl B W).setCell (p := ⟨b, 0, none⟩) h _).setCell (p := ⟨b, 1, none⟩) h _).setCell (p := ⟨b, 2, none⟩) h _).setCell (p := ⟨b, 3, none⟩) h _).setCell (p := ⟨b, 4, none⟩) h _).setCell (p := ⟨b, 5, none⟩) h _
theorem put6_other (W : World) (b : Nat) (v0 v1 v2 v3 v4 v5 : Value) (a j : Nat) (h : a ≠ b) : (put6 W b v0 v1 v2 v3 v4 v5).cell? ⟨a, j, none⟩ = W.cell? ⟨a, j, none⟩ := by
  have hb : ∀ i, (⟨b, i, none⟩ : Addr) ≠ ⟨a, j, none⟩ := fun i e => h (by injection e with e1; exact e1.symm)
  simp only [put6]
  rw [World.cell?_setCell_other _ _ _ _ (hb 5), World.cell?_setCell_other _ _ _ _ (hb 4), World.cell?_setCell_other _ _ _ _ (hb 3), World.cell?_setCell_other _ _ _ _ (hb 2), World.cell?_setCell_other _ _ _ _ (hb 1), World.cell?_setCell_other _ _ _ _ (hb 0)]
theorem put6_cells (W : World) (b : Nat) (v0 v1 v2 v3 v4 v5 : Value) (h : ∀ j, j < 6 → (W.cell? ⟨b, j, none⟩).isSome = true) :
    (put6 W b v0 v1 v2 v3 v4 v5).cell? ⟨b, 0, none⟩ = some v0 ∧ (put6 W b v0 v1 v2 v3 v4 v5).cell? ⟨b, 1, none⟩ = some v1 ∧ (put6 W b v0 v1 v2 v3 v4 v5).cell? ⟨b, 2, none⟩ = some v2 ∧
    (put6 W b v0 v1 v2 v3 v4 v5).cell? ⟨b, 3, none⟩ = some v3 ∧ (put6 W b v0 v1 v2 v3 v4 v5).cell? ⟨b, 4, none⟩ = some v4 ∧ (put6 W b v0 v1 v2 v3 v4 v5).cell? ⟨b, 5, none⟩ = some v5 := by
  have hb : ∀ i j : Nat, i ≠ j → (⟨b, i, none⟩ : Addr) ≠ ⟨b, j, none⟩ := fun i j hij e => hij (by injection e)
  have h0 := h 0 (by omega)
  have h1 := h 1 (by omega)
  have h2 := h 2 (by omega)
  have h3 := h 3 (by omega)
  have h4 := h 4 (by omega)
  have h5 := h 5 (by omega)
  refine ⟨?_, ?_, ?_, ?_, ?_, ?_⟩
  · simp only [put6]
    rw [World.cell?_setCell_other _ _ _ _ (hb 5 0 (by omega)), World.cell?_setCell_other _ _ _ _ (hb 4 0 (by omega)), World.cell?_setCell_other _ _ _ _ (hb 3 0 (by omega)), World.cell?_setCell_other _ _ _ _ (hb 2 0 (by omega)), World.cell?_setCell_other _ _ _ _ (hb 1 0 (by omega)), World.cell?_setCell_same' _ _ _ h0]
  · simp only [put6]
    rw [World.cell?_setCell_other _ _ _ _ (hb 5 1 (by omega)), World.cell?_setCell_other _ _ _ _ (hb 4 1 (by omega)), World.cell?_setCell_other _ _ _ _ (hb 3 1 (by omega)), World.cell?_setCell_other _ _ _ _ (hb 2 1 (by omega)), World.cell?_setCell_same']
    rw [World.cell?_setCell_other _ _ _ _ (hb 0 1 (by omega))]; exact h1
  · simp only [put6]
    rw [World.cell?_setCell_other _ _ _ _ (hb 5 2 (by omega)), World.cell?_setCell_other _ _ _ _ (hb 4 2 (by omega)), World.cell?_setCell_other _ _ _ _ (hb 3 2 (by omega)), World.cell?_setCell_same']
    rw [World.cell?_setCell_other _ _ _ _ (hb 1 2 (by omega)), World.cell?_setCell_other _ _ _ _ (hb 0 2 (by omega))]; exact h2
  · simp only [put6]
    rw [World.cell?_setCell_other _ _ _ _ (hb 5 3 (by omega)), World.cell?_setCell_other _ _ _ _ (hb 4 3 (by omega)), World.cell?_setCell_same']
    rw [World.cell?_setCell_other _ _ _ _ (hb 2 3 (by omega)), World.cell?_setCell_other _ _ _ _ (hb 1 3 (by omega)), World.cell?_setCell_other _ _ _ _ (hb 0 3 (by omega))]; exact h3
  · simp only [put6]
    rw [World.cell?_setCell_other _ _ _ _ (hb 5 4 (by omega)), World.cell?_setCell_same']
    rw [World.cell?_setCell_other _ _ _ _ (hb 3 4 (by omega)), World.cell?_setCell_other _ _ _ _ (hb 2 4 (by omega)), World.cell?_setCell_other _ _ _ _ (hb 1 4 (by omega)), World.cell?_setCell_other _ _ _ _ (hb 0 4 (by omega))]; exact h4
  · simp only [put6]
    rw [World.cell?_setCell_same']
    rw [World.cell?_setCell_other _ _ _ _ (hb 4 5 (by omega)), World.cell?_setCell_other _ _ _ _ (hb 3 5 (by omega)), World.cell?_setCell_other _ _ _ _ (hb 2 5 (by omega)), World.cell?_setCell_other _ _ _ _ (hb 1 5 (by omega)), World.cell?_setCell_other _ _ _ _ (hb 0 5 (by omega))]; exact h5

/-- A scope through which the run goes by one goto: it jumps to the label l, and never again. -/
theorem wp_scope_once {P : Program} {a : Act} {w : World} {Q : Exit → Act → World → Prop} {c rest : Code} (l : Nat) (hf : findLabel c l = some rest)
    (first : ∀ J : Act → World → Prop, (∀ a w, rest.wp P (Exit.jump l (fun _ _ => False) Q) a w → J a w) → c.wp P (Exit.jump l J Q) a w) : (Code.scope c).wp P Q a w :=
  wp_scope_jumps l _ (fun _ _ => 0) hf (first _ fun _ _ h => h) (fun a w h => Code.wp_mono (fun e a w q => by cases e <;> first | exact q | exact q.2.elim) h)

set_option maxRecDepth 100000 in
set_option maxHeartbeats 400000 in
theorem letter_a (w : World) : Calls Tryz.prog 195 #[.int .u8 97] w fun e w' => e = .returned (.bool true) ∧ w = w' := by
  go_enter Tryz.func195, Tryz.ntmps195
  go_wp2
  go_ret
  exact ⟨rfl, rfl⟩
theorem conv_a (sb cp : Nat) (w : World) (hc : w.cell? ⟨sb, 0, none⟩ = some (.int .u8 97)) : (convert 238 9 (.slice (some ⟨sb, 0, none⟩) 1 cp)).run Tryz.prog w = .ok (.string ⟨#[97]⟩) w := by
  have h := run_convert_bytes_back (P := Tryz.prog) w 238 9 5 ⟨sb, 0, none⟩ cp [97] Tryz.underlying238 Tryz.underlying5 Tryz.underlying9 (fun j hj => by
    have : j = 0 := by simp at hj; omega
    subst this; exact hc)
  exact h
/-- The token that a text of one letter begins with. -/
def toka : Value := .agg #[.int .i64 1, .string ⟨#[97]⟩, .int .i64 0, .float .f64 0, .int .i64 0, .int .i64 1]
set_option maxRecDepth 100000 in
set_option maxHeartbeats 400000 in
theorem name_a (sb cp : Nat) (w : World) (hc : w.cell? ⟨sb, 0, none⟩ = some (.int .u8 97)) (hlt : sb < w.heap.size) (hcp : 1 ≤ cp) :
    Calls Tryz.prog 196 #[.slice (some ⟨sb, 0, none⟩) 1 cp] w fun e w' => e = .returned (.agg #[.int .i64 1, .string ⟨#[97]⟩, .int .i64 0, .float .f64 0, .int .i64 0, .int .i64 1]) ∧ Below w.heap.size w w' := by
  have hcv := fun o => conv_a sb cp (w.alloc o) (((Below.refl w.heap.size w).alloc (Nat.le_refl _) o).cell (p := ⟨sb, 0, none⟩) hlt |>.trans hc)
  have hcpi : (1 : Int) ≤ (cp : Int) := by omega
  go_enter Tryz.func196, Tryz.ntmps196
  go_wp2
  refine wp_loop_rounds 1 ?_
  rw [rounds_succ]
  go_wp2
  refine bodyPost_ret (v := .agg #[.int .i64 1, .string ⟨#[97]⟩, .int .i64 0, .float .f64 0, .int .i64 0, .int .i64 1]) (by simp [results, Tryz.results196, go_sem]) rfl ⟨rfl, ?_⟩
  exact (Below.refl _ _).alloc (Nat.le_refl _) _
set_option maxRecDepth 100000 in
set_option maxHeartbeats 400000 in
theorem next_0a (sb cp : Nat) (w : World) (hc : w.cell? ⟨sb, 0, none⟩ = some (.int .u8 97)) (hlt : sb < w.heap.size) (hcp : 1 ≤ cp) :
    Calls Tryz.prog 172 #[.slice (some ⟨sb, 0, none⟩) 1 cp, .int .i64 0] w fun e w' => e = .returned (.tuple #[.agg #[.int .i64 1, .string ⟨#[97]⟩, .int .i64 0, .float .f64 0, .int .i64 0, .int .i64 1], .bool true, .int .i64 0]) ∧ Below w.heap.size w w' := by
  go_enter Tryz.func172, Tryz.ntmps172
  go_wp2
  refine wp_scope_once 2 rfl (fun J hJ => ?_)
  go_wp2
  go_step3
  go_wp2_with (first | (go_at_call 195; refine (letter_a _).mono ?_; rintro e w' ⟨rfl, rfl⟩) | (go_at_call 196; refine (name_a _ _ _ (by simpa [go_sem, hlt] using hc) (by simp; omega) hcp).mono ?_; rintro e w1 ⟨rfl, hb⟩; obtain ⟨q0, q1, q2, q3, q4⟩ := two_six _ _ _ _ hb; have HB1 := Lib.hid hb; clear hb))
  go_step3
  simp only [Exit.inBlock, Exit.then]
  refine jump_here (hJ _ _ ?_)
  clear hJ
  obtain ⟨d0, d1, d2, d3, d4, d5⟩ := put6_cells w1 (w.heap.size + 1) (.int .i64 1) (.string ⟨#[97]⟩) (.int .i64 0) (.float .f64 0) (.int .i64 0) (.int .i64 1) (fun j hj => by
    rw [q1]; match j, hj with | 0, _ => rfl | 1, _ => rfl | 2, _ => rfl | 3, _ => rfl | 4, _ => rfl | 5, _ => rfl)
  have e0 := fun j => (put6_other w1 (w.heap.size + 1) (.int .i64 1) (.string ⟨#[97]⟩) (.int .i64 0) (.float .f64 0) (.int .i64 0) (.int .i64 1) w.heap.size j (by omega)).trans (q0 j)
  have g0 := fun j => (put6_frozen w1 (w.heap.size + 1) (.int .i64 1) (.string ⟨#[97]⟩) (.int .i64 0) (.float .f64 0) (.int .i64 0) (.int .i64 1) ⟨w.heap.size, j, none⟩).trans (q2 j)
  have g1 := fun j => (put6_frozen w1 (w.heap.size + 1) (.int .i64 1) (.string ⟨#[97]⟩) (.int .i64 0) (.float .f64 0) (.int .i64 0) (.int .i64 1) ⟨w.heap.size + 1, j, none⟩).trans (q3 j)
  have hB2 := put6_below w1 (w.heap.size + 1) (.int .i64 1) (.string ⟨#[97]⟩) (.int .i64 0) (.float .f64 0) (.int .i64 0) (.int .i64 1) w.heap.size (by omega)
  have HB2 := Lib.hid hB2
  clear hB2 q0 q1 q2 q3
  unfold put6 at d0 d1 d2 d3 d4 d5 e0 g0 g1 HB2
  generalize (((((w1.setCell ⟨w.heap.size + 1, 0, none⟩ (.int .i64 1)).setCell ⟨w.heap.size + 1, 1, none⟩ (.string ⟨#[97]⟩)).setCell ⟨w.heap.size + 1, 2, none⟩ (.int .i64 0)).setCell ⟨w.heap.size + 1, 3, none⟩ (.float .f64 0)).setCell ⟨w.heap.size + 1, 4, none⟩ (.int .i64 0)).setCell ⟨w.heap.size + 1, 5, none⟩ (.int .i64 1) = W2 at *
  go_wp2
  simp only [Exit.jump]
  refine bodyPost_ret (v := .tuple #[.agg #[.int .i64 1, .string ⟨#[97]⟩, .int .i64 0, .float .f64 0, .int .i64 0, .int .i64 1], .bool true, .int .i64 0]) ?_ rfl ⟨rfl, ?_⟩
  · simp [results, Tryz.results172, go_sem, e0]
  · refine Below.setCell (p := ⟨w.heap.size, 5, none⟩) ?_ (Nat.le_refl _) _
    refine Below.setCell (p := ⟨w.heap.size, 4, none⟩) ?_ (Nat.le_refl _) _
    refine Below.setCell (p := ⟨w.heap.size, 3, none⟩) ?_ (Nat.le_refl _) _
    refine Below.setCell (p := ⟨w.heap.size, 2, none⟩) ?_ (Nat.le_refl _) _
    refine Below.setCell (p := ⟨w.heap.size, 1, none⟩) ?_ (Nat.le_refl _) _
    refine Below.setCell (p := ⟨w.heap.size, 0, none⟩) ?_ (Nat.le_refl _) _
    refine Below.setCell (p := ⟨w.heap.size + 1, 4, none⟩) ?_ (Nat.le_succ _) _
    exact ((((Below.refl _ _).alloc (Nat.le_refl _) _).alloc (by simp) _).trans (HB1.out.mono (by simp; omega))).trans HB2.out
set_option maxRecDepth 100000 in
set_option maxHeartbeats 400000 in
theorem letter_k (w : World) : Calls Tryz.prog 195 #[.int .u8 107] w fun e w' => e = .returned (.bool true) ∧ w = w' := by
  go_enter Tryz.func195, Tryz.ntmps195
  go_wp2
  go_ret
  exact ⟨rfl, rfl⟩
theorem conv_k (sb cp : Nat) (w : World) (hc : w.cell? ⟨sb, 0, none⟩ = some (.int .u8 107)) : (convert 238 9 (.slice (some ⟨sb, 0, none⟩) 1 cp)).run Tryz.prog w = .ok (.string ⟨#[107]⟩) w := by
  have h := run_convert_bytes_back (P := Tryz.prog) w 238 9 5 ⟨sb, 0, none⟩ cp [107] Tryz.underlying238 Tryz.underlying5 Tryz.underlying9 (fun j hj => by
    have : j = 0 := by simp at hj; omega
    subst this; exact hc)
  exact h
/-- The token that a text of one letter begins with. -/
def tokk : Value := .agg #[.int .i64 1, .string ⟨#[107]⟩, .int .i64 0, .float .f64 0, .int .i64 0, .int .i64 1]
set_option maxRecDepth 100000 in
set_option maxHeartbeats 400000 in
theorem name_k (sb cp : Nat) (w : World) (hc : w.cell? ⟨sb, 0, none⟩ = some (.int .u8 107)) (hlt : sb < w.heap.size) (hcp : 1 ≤ cp) :
    Calls Tryz.prog 196 #[.slice (some ⟨sb, 0, none⟩) 1 cp] w fun e w' => e = .returned (.agg #[.int .i64 1, .string ⟨#[107]⟩, .int .i64 0, .float .f64 0, .int .i64 0, .int .i64 1]) ∧ Below w.heap.size w w' := by
  have hcv := fun o => conv_k sb cp (w.alloc o) (((Below.refl w.heap.size w).alloc (Nat.le_refl _) o).cell (p := ⟨sb, 0, none⟩) hlt |>.trans hc)
  have hcpi : (1 : Int) ≤ (cp : Int) := by omega
  go_enter Tryz.func196, Tryz.ntmps196
  go_wp2
  refine wp_loop_rounds 1 ?_
  rw [rounds_succ]
  go_wp2
  refine bodyPost_ret (v := .agg #[.int .i64 1, .string ⟨#[107]⟩, .int .i64 0, .float .f64 0, .int .i64 0, .int .i64 1]) (by simp [results, Tryz.results196, go_sem]) rfl ⟨rfl, ?_⟩
  exact (Below.refl _ _).alloc (Nat.le_refl _) _
set_option maxRecDepth 100000 in
set_option maxHeartbeats 400000 in
theorem next_0k (sb cp : Nat) (w : World) (hc : w.cell? ⟨sb, 0, none⟩ = some (.int .u8 107)) (hlt : sb < w.heap.size) (hcp : 1 ≤ cp) :
    Calls Tryz.prog 172 #[.slice (some ⟨sb, 0, none⟩) 1 cp, .int .i64 0] w fun e w' => e = .returned (.tuple #[.agg #[.int .i64 1, .string ⟨#[107]⟩, .int .i64 0, .float .f64 0, .int .i64 0, .int .i64 1], .bool true, .int .i64 0]) ∧ Below w.heap.size w w' := by
  go_enter Tryz.func172, Tryz.ntmps172
  go_wp2
  refine wp_scope_once 2 rfl (fun J hJ => ?_)
  go_wp2
  go_step3
  go_wp2_with (first | (go_at_call 195; refine (letter_k _).mono ?_; rintro e w' ⟨rfl, rfl⟩) | (go_at_call 196; refine (name_k _ _ _ (by simpa [go_sem, hlt] using hc) (by simp; omega) hcp).mono ?_; rintro e w1 ⟨rfl, hb⟩; obtain ⟨q0, q1, q2, q3, q4⟩ := two_six _ _ _ _ hb; have HB1 := Lib.hid hb; clear hb))
  go_step3
  simp only [Exit.inBlock, Exit.then]
  refine jump_here (hJ _ _ ?_)
  clear hJ
  obtain ⟨d0, d1, d2, d3, d4, d5⟩ := put6_cells w1 (w.heap.size + 1) (.int .i64 1) (.string ⟨#[107]⟩) (.int .i64 0) (.float .f64 0) (.int .i64 0) (.int .i64 1) (fun j hj => by
    rw [q1]; match j, hj with | 0, _ => rfl | 1, _ => rfl | 2, _ => rfl | 3, _ => rfl | 4, _ => rfl | 5, _ => rfl)
  have e0 := fun j => (put6_other w1 (w.heap.size + 1) (.int .i64 1) (.string ⟨#[107]⟩) (.int .i64 0) (.float .f64 0) (.int .i64 0) (.int .i64 1) w.heap.size j (by omega)).trans (q0 j)
  have g0 := fun j => (put6_frozen w1 (w.heap.size + 1) (.int .i64 1) (.string ⟨#[107]⟩) (.int .i64 0) (.float .f64 0) (.int .i64 0) (.int .i64 1) ⟨w.heap.size, j, none⟩).trans (q2 j)
  have g1 := fun j => (put6_frozen w1 (w.heap.size + 1) (.int .i64 1) (.string ⟨#[107]⟩) (.int .i64 0) (.float .f64 0) (.int .i64 0) (.int .i64 1) ⟨w.heap.size + 1, j, none⟩).trans (q3 j)
  have hB2 := put6_below w1 (w.heap.size + 1) (.int .i64 1) (.string ⟨#[107]⟩) (.int .i64 0) (.float .f64 0) (.int .i64 0) (.int .i64 1) w.heap.size (by omega)
  have HB2 := Lib.hid hB2
  clear hB2 q0 q1 q2 q3
  unfold put6 at d0 d1 d2 d3 d4 d5 e0 g0 g1 HB2
  generalize (((((w1.setCell ⟨w.heap.size + 1, 0, none⟩ (.int .i64 1)).setCell ⟨w.heap.size + 1, 1, none⟩ (.string ⟨#[107]⟩)).setCell ⟨w.heap.size + 1, 2, none⟩ (.int .i64 0)).setCell ⟨w.heap.size + 1, 3, none⟩ (.float .f64 0)).setCell ⟨w.heap.size + 1, 4, none⟩ (.int .i64 0)).setCell ⟨w.heap.size + 1, 5, none⟩ (.int .i64 1) = W2 at *
  go_wp2
  simp only [Exit.jump]
  refine bodyPost_ret (v := .tuple #[.agg #[.int .i64 1, .string ⟨#[107]⟩, .int .i64 0, .float .f64 0, .int .i64 0, .int .i64 1], .bool true, .int .i64 0]) ?_ rfl ⟨rfl, ?_⟩
  · simp [results, Tryz.results172, go_sem, e0]
  · refine Below.setCell (p := ⟨w.heap.size, 5, none⟩) ?_ (Nat.le_refl _) _
    refine Below.setCell (p := ⟨w.heap.size, 4, none⟩) ?_ (Nat.le_refl _) _
    refine Below.setCell (p := ⟨w.heap.size, 3, none⟩) ?_ (Nat.le_refl _) _
    refine Below.setCell (p := ⟨w.heap.size, 2, none⟩) ?_ (Nat.le_refl _) _
    refine Below.setCell (p := ⟨w.heap.size, 1, none⟩) ?_ (Nat.le_refl _) _
    refine Below.setCell (p := ⟨w.heap.size, 0, none⟩) ?_ (Nat.le_refl _) _
    refine Below.setCell (p := ⟨w.heap.size + 1, 4, none⟩) ?_ (Nat.le_succ _) _
    exact ((((Below.refl _ _).alloc (Nat.le_refl _) _).alloc (by simp) _).trans (HB1.out.mono (by simp; omega))).trans HB2.out
set_option maxRecDepth 100000 in
set_option maxHeartbeats 400000 in
theorem next_end (sb cp : Nat) (w : World) :
    Calls Tryz.prog 172 #[.slice (some ⟨sb, 0, none⟩) 1 cp, .int .i64 1] w fun e w' => e = .returned (.tuple #[.agg #[.int .i64 0, .string ⟨#[]⟩, .int .i64 0, .float .f64 0, .int .i64 0, .int .i64 0], .bool false, .int .i64 0]) ∧ Below w.heap.size w w' := by
  go_enter Tryz.func172, Tryz.ntmps172
  go_wp2
  go_step3
  go_wp2
  go_step3
  go_wp2
  rw [Exit.noGoto_ret]
  refine bodyPost_ret (v := .tuple #[.agg #[.int .i64 0, .string ⟨#[]⟩, .int .i64 0, .float .f64 0, .int .i64 0, .int .i64 0], .bool false, .int .i64 0]) (by simp [results, Tryz.results172, go_sem]) rfl ⟨rfl, ?_⟩
  exact ((Below.refl _ _).alloc (Nat.le_refl _) _).alloc (by simp) _
end Go.Proofs.YtoaaiffbgiehpaaGreatDoor
