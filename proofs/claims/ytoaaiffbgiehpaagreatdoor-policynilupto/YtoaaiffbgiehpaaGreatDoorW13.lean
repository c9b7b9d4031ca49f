/- word: it holds of a text of one small letter. -/
import Derived.Test.YtoaaiffbgiehpaaGreatDoorW12
namespace Go.Proofs.YtoaaiffbgiehpaaGreatDoor
open Go.RowKit
set_option maxHeartbeats 400000 in
theorem keyword_a (w : World) : Calls Tryz.prog 86 #[.string ⟨#[97]⟩] w fun e w' => e = .returned (.bool false) ∧ w = w' := by
  go_enter Tryz.func86, Tryz.ntmps86
  go_wp2
  go_ret
  exact ⟨rfl, rfl⟩
theorem bytes_a (w : World) : ∃ cp w1, (convert 9 238 (.string ⟨#[97]⟩)).run Tryz.prog w = .ok (.slice (some ⟨w.heap.size, 0, none⟩) 1 cp) w1 ∧ 1 ≤ cp ∧ LetterAt w.heap.size 97 w1 ∧ Below w.heap.size w w1 := by
  have h := run_bytes_of_string (P := Tryz.prog) w 9 238 5 ⟨#[97]⟩ Tryz.underlying9 Tryz.underlying238 Tryz.underlying5
  refine ⟨_, _, h, ?_, ⟨?_, ?_⟩, ?_⟩
  · exact grownCap_ge w 1 0 5
  · refine (World.cell?_alloc_mark w.drew _ 5 _ 0).trans ?_
    rw [bytesRow, Array.getElem?_append_left (by simp)]; simp
  · simp
  · exact ((Below.refl w.heap.size w).drew).alloc (Nat.le_refl _) _
set_option maxRecDepth 100000 in
set_option maxHeartbeats 1000000 in
theorem word_a (w : World) : Calls Tryz.prog 58 #[.string ⟨#[97]⟩] w fun e w' => e = .returned (.bool true) ∧ Below w.heap.size w w' := by
  obtain ⟨cp, w1, hcv, hcp, hl, hB1⟩ := bytes_a w
  have HB1 := Lib.hid hB1
  have HL := Lib.hid hl
  have hz := hB1.size
  clear hB1 hl
  go_enter Tryz.func58, Tryz.ntmps58
  go_wp2_with (first | (go_at_call 86; refine (keyword_a _).mono ?_; rintro e w' ⟨rfl, rfl⟩) | (go_at_call 87; refine (scan_any ⟨#[97]⟩ 97 w.heap.size cp (fun W hW => next_0a _ _ W hW.1 hW.2 hcp) _ HL.out).mono ?_; rintro e w2 ⟨g, cap, rfl, hg0, hg5, hgl, hgb, hb⟩; have HB2 := Lib.hid hb; clear hb))
  go_ret
  exact ⟨rfl, HB1.out.trans (HB2.out.mono hz)⟩
set_option maxHeartbeats 400000 in
theorem keyword_k (w : World) : Calls Tryz.prog 86 #[.string ⟨#[107]⟩] w fun e w' => e = .returned (.bool false) ∧ w = w' := by
  go_enter Tryz.func86, Tryz.ntmps86
  go_wp2
  go_ret
  exact ⟨rfl, rfl⟩
theorem bytes_k (w : World) : ∃ cp w1, (convert 9 238 (.string ⟨#[107]⟩)).run Tryz.prog w = .ok (.slice (some ⟨w.heap.size, 0, none⟩) 1 cp) w1 ∧ 1 ≤ cp ∧ LetterAt w.heap.size 107 w1 ∧ Below w.heap.size w w1 := by
  have h := run_bytes_of_string (P := Tryz.prog) w 9 238 5 ⟨#[107]⟩ Tryz.underlying9 Tryz.underlying238 Tryz.underlying5
  refine ⟨_, _, h, ?_, ⟨?_, ?_⟩, ?_⟩
  · exact grownCap_ge w 1 0 5
  · refine (World.cell?_alloc_mark w.drew _ 5 _ 0).trans ?_
    rw [bytesRow, Array.getElem?_append_left (by simp)]; simp
  · simp
  · exact ((Below.refl w.heap.size w).drew).alloc (Nat.le_refl _) _
set_option maxRecDepth 100000 in
set_option maxHeartbeats 1000000 in
theorem word_k (w : World) : Calls Tryz.prog 58 #[.string ⟨#[107]⟩] w fun e w' => e = .returned (.bool true) ∧ Below w.heap.size w w' := by
  obtain ⟨cp, w1, hcv, hcp, hl, hB1⟩ := bytes_k w
  have HB1 := Lib.hid hB1
  have HL := Lib.hid hl
  have hz := hB1.size
  clear hB1 hl
  go_enter Tryz.func58, Tryz.ntmps58
  go_wp2_with (first | (go_at_call 86; refine (keyword_k _).mono ?_; rintro e w' ⟨rfl, rfl⟩) | (go_at_call 87; refine (scan_any ⟨#[107]⟩ 107 w.heap.size cp (fun W hW => next_0k _ _ W hW.1 hW.2 hcp) _ HL.out).mono ?_; rintro e w2 ⟨g, cap, rfl, hg0, hg5, hgl, hgb, hb⟩; have HB2 := Lib.hid hb; clear hb))
  go_ret
  exact ⟨rfl, HB1.out.trans (HB2.out.mono hz)⟩
end Go.Proofs.YtoaaiffbgiehpaaGreatDoor
