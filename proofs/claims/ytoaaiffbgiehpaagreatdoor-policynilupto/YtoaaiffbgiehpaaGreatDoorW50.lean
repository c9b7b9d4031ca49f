/- The policy Old: its rule, at the three choices that awake lends, with no, one and two pairs in its map. -/
import Derived.Test.YtoaaiffbgiehpaaGreatDoorW4
import Derived.Deep.RegionHeld3
import Derived.Deep.RegionWith
import Derived.Lib.Hide
namespace Go.Proofs.YtoaaiffbgiehpaaGreatDoor
open Go.RowKit

set_option maxRecDepth 100000 in
set_option maxHeartbeats 2000000 in
theorem old_0 (c mb la : Nat) (w : World) (hlt : c < w.heap.size) (hlm : mb < c) (hlc : la < mb) (hc0 : w.cell? ⟨c, 0, none⟩ = some (.int .i64 0)) (hc1 : w.cell? ⟨c, 1, none⟩ = some (.map (some mb))) (hf : w.frozen? ⟨c, 0, none⟩ = false)
    (hm : w.heap[mb]? = some (.map #[] 0)) (hl : LH la w) :
    Calls Tryz.prog 378 #[.pointer (some ⟨c, 0, none⟩), .slice (some ⟨la, 0, none⟩) 3 3] w (PostO c mb w 0 1 #[ent 0 1 1 0] 1) := by
  obtain ⟨⟨h00, h01, h02⟩, ⟨h03, h04, h05⟩, ⟨h06, h07, h08⟩⟩ := hl
  have hB0 : Below w.heap.size w (w.alloc (.cells #[.slice (some ⟨la, 0, none⟩) 3 3] 30)) := (Below.refl _ _).alloc (Nat.le_refl _) _
  have hnew : (w.alloc (.cells #[.slice (some ⟨la, 0, none⟩) 3 3] 30)).cell? ⟨w.heap.size, 0, none⟩ = some (.slice (some ⟨la, 0, none⟩) 3 3) := by simp
  have hsz : (w.alloc (.cells #[.slice (some ⟨la, 0, none⟩) 3 3] 30)).heap.size = w.heap.size + 1 := by simp
  go_enter Tryz.func378, Tryz.ntmps378
  go_wp2_with fail
  generalize hW0 : w.alloc (.cells #[.slice (some ⟨la, 0, none⟩) 3 3] 30) = W0 at *
  generalize hlb : w.heap.size = lb at *
  have hX : ∀ w', Below (lb+1) W0 w' → (∀ b, b < lb → w'.heap[b]? = w.heap[b]?) ∧ (∀ b i, b < lb → w'.cell? ⟨b, i, none⟩ = w.cell? ⟨b, i, none⟩) ∧ (∀ b i, b < lb → w'.frozen? ⟨b, i, none⟩ = w.frozen? ⟨b, i, none⟩) := fun w' hB =>
    have hBw : ∀ b, b < lb → w'.heap[b]? = w.heap[b]? := fun b hb => (hB.block b (by omega)).trans (hB0.block b hb)
    ⟨hBw, fun b i hb => World.cell?_of_block (w := w) (a := ⟨b, i, none⟩) (hBw b hb), fun b i hb => World.frozen?_of_block (w := w) (a := ⟨b, i, none⟩) (hBw b hb)⟩
  have hS : ∀ w', Below (lb+1) W0 w' → Below (lb+1) W0 w' ∧ w'.cell? ⟨c, 1, none⟩ = some (.map (some mb)) ∧ w'.cell? ⟨lb, 0, none⟩ = some (.slice (some ⟨la, 0, none⟩) 3 3) ∧
      w'.cell? ⟨la, 0, none⟩ = some (.int .i64 0) ∧ w'.cell? ⟨la, 1, none⟩ = some (.int .i64 1) ∧ w'.cell? ⟨la, 3, none⟩ = some (.int .i64 2) ∧ w'.cell? ⟨la, 4, none⟩ = some (.int .i64 0) ∧
      w'.cell? ⟨la, 6, none⟩ = some (.int .i64 2) ∧ w'.cell? ⟨la, 7, none⟩ = some (.int .i64 3) ∧ lb < w'.heap.size ∧ la < w'.heap.size ∧
      (Instr.lookup 74 (.map (some mb)) (.agg #[.int .i64 0, .int .i64 1]) false).run Tryz.prog w' = .ok (.int .i64 0) w' ∧
      (Instr.lookup 74 (.map (some mb)) (.agg #[.int .i64 2, .int .i64 0]) false).run Tryz.prog w' = .ok (.int .i64 0) w' ∧
      (Instr.lookup 74 (.map (some mb)) (.agg #[.int .i64 2, .int .i64 3]) false).run Tryz.prog w' = .ok (.int .i64 0) w' := by
    intro w' hB
    obtain ⟨hBw, hcell, -⟩ := hX w' hB
    have hm' := (hBw mb (by omega)).trans hm
    have hs := hB.size
    exact ⟨hB, (hcell c 1 hlt).trans hc1, (hB.cell (p := ⟨lb, 0, none⟩) (Nat.lt_succ_self _)).trans hnew, (hcell la 0 (by omega)).trans h00, (hcell la 1 (by omega)).trans h01, (hcell la 3 (by omega)).trans h03, (hcell la 4 (by omega)).trans h04,
      (hcell la 6 (by omega)).trans h06, (hcell la 7 (by omega)).trans h07, by omega, by omega, look_0_0 _ _ _ hm', look_0_1 _ _ _ hm', look_0_2 _ _ _ hm'⟩
  have HS := Lib.hid hS
  have HX := Lib.hid hX
  have HB0 := Lib.hid hB0
  have HLB := Lib.hid hlb
  clear hlb hS hX hB0 hnew hW0 h00 h01 h02 h03 h04 h05 h06 h07 h08
  go_loopw [5, 11] (fun p i wr => ∃ k : Nat, k ≤ 3 ∧ i = .int .i64 k ∧ p = .int .i64 (if k ≤ 1 then 0 else if k = 2 then 0 else 0) ∧ Below (lb+1) W0 wr) (fun _ i _ => 3 - (intOf i).toNat)
  case atStart => exact ⟨0, by omega, rfl, rfl, Below.refl _ _⟩
  case round =>
    obtain ⟨k, hk, rfl, rfl, hBr⟩ := hrel
    have hSr := HS.out _ hBr
    have hcases : k = 0 ∨ k = 1 ∨ k = 2 ∨ k = 3 := by omega
    rcases hcases with rfl | rfl | rfl | rfl
    all_goals simp only [Nat.reduceLeDiff, reduceIte, Nat.reduceEqDiff, Int.cast_ofNat_Int]
    · -- round 0
      go_wp2_with fail
      go_region_held3 (fun w' => Below (lb+1) W0 w' ∧ w'.cell? ⟨c, 1, none⟩ = some (.map (some mb)) ∧ w'.cell? ⟨lb, 0, none⟩ = some (.slice (some ⟨la, 0, none⟩) 3 3) ∧
      w'.cell? ⟨la, 0, none⟩ = some (.int .i64 0) ∧ w'.cell? ⟨la, 1, none⟩ = some (.int .i64 1) ∧ w'.cell? ⟨la, 3, none⟩ = some (.int .i64 2) ∧ w'.cell? ⟨la, 4, none⟩ = some (.int .i64 0) ∧
      w'.cell? ⟨la, 6, none⟩ = some (.int .i64 2) ∧ w'.cell? ⟨la, 7, none⟩ = some (.int .i64 3) ∧ lb < w'.heap.size ∧ la < w'.heap.size ∧
      (Instr.lookup 74 (.map (some mb)) (.agg #[.int .i64 0, .int .i64 1]) false).run Tryz.prog w' = .ok (.int .i64 0) w' ∧
      (Instr.lookup 74 (.map (some mb)) (.agg #[.int .i64 2, .int .i64 0]) false).run Tryz.prog w' = .ok (.int .i64 0) w' ∧
      (Instr.lookup 74 (.map (some mb)) (.agg #[.int .i64 2, .int .i64 3]) false).run Tryz.prog w' = .ok (.int .i64 0) w')
        (first | exact HS.out _ hBr.drew | exact HS.out _ hb2)
        (first
      | (go_at_call 379; go_at_call_of 379 (Value.int IntKind.i64 0); go_split_ands; refine (pair_0 _ _ 0 1 _ (by assumption) (by assumption) (by assumption) (by assumption) (by assumption)).mono ?_; rintro e w' ⟨rfl, hb⟩; have hb2 : Below (lb+1) W0 w' := Below.trans (by assumption) (hb.mono (by omega)); clear hb)
      | (go_at_call 379; go_at_call_of 379 (Value.int IntKind.i64 1); go_split_ands; refine (pair_1 _ _ 2 0 _ (by assumption) (by assumption) (by assumption) (by assumption) (by assumption)).mono ?_; rintro e w' ⟨rfl, hb⟩; have hb2 : Below (lb+1) W0 w' := Below.trans (by assumption) (hb.mono (by omega)); clear hb)
      | (go_at_call 379; go_at_call_of 379 (Value.int IntKind.i64 2); go_split_ands; refine (pair_2 _ _ 2 3 _ (by assumption) (by assumption) (by assumption) (by assumption) (by assumption)).mono ?_; rintro e w' ⟨rfl, hb⟩; have hb2 : Below (lb+1) W0 w' := Below.trans (by assumption) (hb.mono (by omega)); clear hb))
      all_goals go_wp2
      all_goals go_roundw
      all_goals first | (case rel => exact ⟨1, by omega, by go_num, rfl, by assumption⟩) | (case measure => simp [intOf])
    · go_wp2_with fail
      go_region_held3 (fun w' => Below (lb+1) W0 w' ∧ w'.cell? ⟨c, 1, none⟩ = some (.map (some mb)) ∧ w'.cell? ⟨lb, 0, none⟩ = some (.slice (some ⟨la, 0, none⟩) 3 3) ∧
      w'.cell? ⟨la, 0, none⟩ = some (.int .i64 0) ∧ w'.cell? ⟨la, 1, none⟩ = some (.int .i64 1) ∧ w'.cell? ⟨la, 3, none⟩ = some (.int .i64 2) ∧ w'.cell? ⟨la, 4, none⟩ = some (.int .i64 0) ∧
      w'.cell? ⟨la, 6, none⟩ = some (.int .i64 2) ∧ w'.cell? ⟨la, 7, none⟩ = some (.int .i64 3) ∧ lb < w'.heap.size ∧ la < w'.heap.size ∧
      (Instr.lookup 74 (.map (some mb)) (.agg #[.int .i64 0, .int .i64 1]) false).run Tryz.prog w' = .ok (.int .i64 0) w' ∧
      (Instr.lookup 74 (.map (some mb)) (.agg #[.int .i64 2, .int .i64 0]) false).run Tryz.prog w' = .ok (.int .i64 0) w' ∧
      (Instr.lookup 74 (.map (some mb)) (.agg #[.int .i64 2, .int .i64 3]) false).run Tryz.prog w' = .ok (.int .i64 0) w')
        (first | exact HS.out _ hBr.drew | exact HS.out _ hb2)
        (first
      | (go_at_call 379; go_at_call_of 379 (Value.int IntKind.i64 0); go_split_ands; refine (pair_0 _ _ 0 1 _ (by assumption) (by assumption) (by assumption) (by assumption) (by assumption)).mono ?_; rintro e w' ⟨rfl, hb⟩; have hb2 : Below (lb+1) W0 w' := Below.trans (by assumption) (hb.mono (by omega)); clear hb)
      | (go_at_call 379; go_at_call_of 379 (Value.int IntKind.i64 1); go_split_ands; refine (pair_1 _ _ 2 0 _ (by assumption) (by assumption) (by assumption) (by assumption) (by assumption)).mono ?_; rintro e w' ⟨rfl, hb⟩; have hb2 : Below (lb+1) W0 w' := Below.trans (by assumption) (hb.mono (by omega)); clear hb)
      | (go_at_call 379; go_at_call_of 379 (Value.int IntKind.i64 2); go_split_ands; refine (pair_2 _ _ 2 3 _ (by assumption) (by assumption) (by assumption) (by assumption) (by assumption)).mono ?_; rintro e w' ⟨rfl, hb⟩; have hb2 : Below (lb+1) W0 w' := Below.trans (by assumption) (hb.mono (by omega)); clear hb))
      all_goals go_wp2
      all_goals go_roundw
      all_goals first | (case rel => exact ⟨2, by omega, by go_num, rfl, by assumption⟩) | (case measure => simp [intOf])
    · go_wp2_with fail
      go_region_held3 (fun w' => Below (lb+1) W0 w' ∧ w'.cell? ⟨c, 1, none⟩ = some (.map (some mb)) ∧ w'.cell? ⟨lb, 0, none⟩ = some (.slice (some ⟨la, 0, none⟩) 3 3) ∧
      w'.cell? ⟨la, 0, none⟩ = some (.int .i64 0) ∧ w'.cell? ⟨la, 1, none⟩ = some (.int .i64 1) ∧ w'.cell? ⟨la, 3, none⟩ = some (.int .i64 2) ∧ w'.cell? ⟨la, 4, none⟩ = some (.int .i64 0) ∧
      w'.cell? ⟨la, 6, none⟩ = some (.int .i64 2) ∧ w'.cell? ⟨la, 7, none⟩ = some (.int .i64 3) ∧ lb < w'.heap.size ∧ la < w'.heap.size ∧
      (Instr.lookup 74 (.map (some mb)) (.agg #[.int .i64 0, .int .i64 1]) false).run Tryz.prog w' = .ok (.int .i64 0) w' ∧
      (Instr.lookup 74 (.map (some mb)) (.agg #[.int .i64 2, .int .i64 0]) false).run Tryz.prog w' = .ok (.int .i64 0) w' ∧
      (Instr.lookup 74 (.map (some mb)) (.agg #[.int .i64 2, .int .i64 3]) false).run Tryz.prog w' = .ok (.int .i64 0) w')
        (first | exact HS.out _ hBr.drew | exact HS.out _ hb2)
        (first
      | (go_at_call 379; go_at_call_of 379 (Value.int IntKind.i64 0); go_split_ands; refine (pair_0 _ _ 0 1 _ (by assumption) (by assumption) (by assumption) (by assumption) (by assumption)).mono ?_; rintro e w' ⟨rfl, hb⟩; have hb2 : Below (lb+1) W0 w' := Below.trans (by assumption) (hb.mono (by omega)); clear hb)
      | (go_at_call 379; go_at_call_of 379 (Value.int IntKind.i64 1); go_split_ands; refine (pair_1 _ _ 2 0 _ (by assumption) (by assumption) (by assumption) (by assumption) (by assumption)).mono ?_; rintro e w' ⟨rfl, hb⟩; have hb2 : Below (lb+1) W0 w' := Below.trans (by assumption) (hb.mono (by omega)); clear hb)
      | (go_at_call 379; go_at_call_of 379 (Value.int IntKind.i64 2); go_split_ands; refine (pair_2 _ _ 2 3 _ (by assumption) (by assumption) (by assumption) (by assumption) (by assumption)).mono ?_; rintro e w' ⟨rfl, hb⟩; have hb2 : Below (lb+1) W0 w' := Below.trans (by assumption) (hb.mono (by omega)); clear hb))
      all_goals go_wp2
      all_goals go_roundw
      all_goals first | (case rel => exact ⟨3, by omega, by go_num, rfl, by assumption⟩) | (case measure => simp [intOf])
    · obtain ⟨hBw, hcell, hfro⟩ := HX.out _ hBr
      have c0 := (hcell c 0 hlt).trans hc0
      have c1 := (hcell c 1 hlt).trans hc1
      have f0 := (hfro c 0 hlt).trans hf
      have hBw' := hBw
      clear hBw hcell hfro
      go_wp2_with fail
      have hbc : ∀ i, (wr.setCell ⟨c, 0, none⟩ (.int .i64 1)).cell? ⟨lb, i, none⟩ = wr.cell? ⟨lb, i, none⟩ := fun i => World.cell?_of_block (w := wr) (a := ⟨lb, i, none⟩) (Below.heap_setCell _ _ _ _ (by simp; omega))
      have hba : ∀ i, (wr.setCell ⟨c, 0, none⟩ (.int .i64 1)).cell? ⟨la, i, none⟩ = wr.cell? ⟨la, i, none⟩ := fun i => World.cell?_of_block (w := wr) (a := ⟨la, i, none⟩) (Below.heap_setCell _ _ _ _ (by simp; omega))
      have hbm : (wr.setCell ⟨c, 0, none⟩ (.int .i64 1)).heap[mb]? = wr.heap[mb]? := Below.heap_setCell _ _ _ _ (by simp; omega)
      have d0 : (wr.setCell ⟨c, 0, none⟩ (.int .i64 1)).cell? ⟨c, 0, none⟩ = some (.int .i64 1) := World.cell?_setCell_same' _ _ _ (by rw [c0]; rfl)
      have d1 : (wr.setCell ⟨c, 0, none⟩ (.int .i64 1)).cell? ⟨c, 1, none⟩ = some (.map (some mb)) := by
        exact (World.cell?_setCell_other _ ⟨c, 0, none⟩ ⟨c, 1, none⟩ _ (by simp)).trans c1
      have g0 : (wr.setCell ⟨c, 0, none⟩ (.int .i64 1)).frozen? ⟨c, 0, none⟩ = false := by rw [World.frozen?_setCell]; exact f0
      have hz : (wr.setCell ⟨c, 0, none⟩ (.int .i64 1)).heap.size = wr.heap.size := World.size_setCell _ _ _
      have hBW : Below mb wr (wr.setCell ⟨c, 0, none⟩ (.int .i64 1)) := (Below.refl _ _).setCell (p := ⟨c, 0, none⟩) (by simp; omega) _
      generalize wr.setCell ⟨c, 0, none⟩ (.int .i64 1) = W1 at *
      obtain ⟨-, -, sb, s0, s1, s3, s4, s6, s7, hsz1, hsz2, -⟩ := hSr
      have hm1 : W1.heap[mb]? = some (.map #[] 0) := hbm.trans ((hBw' mb (by omega)).trans hm)
      have e0 := (hbc 0).trans sb
      have a0 := (hba 0).trans s0
      have a1 := (hba 1).trans s1
      have a3 := (hba 3).trans s3
      have a4 := (hba 4).trans s4
      have a6 := (hba 6).trans s6
      have a7 := (hba 7).trans s7
      have hT : ∀ w', Below (lb+1) W1 w' → Below (lb+1) W1 w' ∧ w'.cell? ⟨c, 0, none⟩ = some (.int .i64 1) ∧ w'.cell? ⟨c, 1, none⟩ = some (.map (some mb)) ∧ w'.cell? ⟨lb, 0, none⟩ = some (.slice (some ⟨la, 0, none⟩) 3 3) ∧
      w'.cell? ⟨la, 0, none⟩ = some (.int .i64 0) ∧ w'.cell? ⟨la, 1, none⟩ = some (.int .i64 1) ∧ w'.cell? ⟨la, 3, none⟩ = some (.int .i64 2) ∧ w'.cell? ⟨la, 4, none⟩ = some (.int .i64 0) ∧
      w'.cell? ⟨la, 6, none⟩ = some (.int .i64 2) ∧ w'.cell? ⟨la, 7, none⟩ = some (.int .i64 3) ∧ lb < w'.heap.size ∧ la < w'.heap.size ∧
      (Instr.mapUpdate 74 (.map (some mb)) (.agg #[.int .i64 0, .int .i64 1]) (.int .i64 1)).run Tryz.prog w' = .ok () (setAt w' mb (.map #[ent 0 1 1 0] 1)) := by
        intro w' hB
        have hm' := (hB.block mb (by omega)).trans hm1
        have hs := hB.size
        exact ⟨hB, (hB.cell (p := ⟨c, 0, none⟩) (by simp; omega)).trans d0, (hB.cell (p := ⟨c, 1, none⟩) (by simp; omega)).trans d1, (hB.cell (p := ⟨lb, 0, none⟩) (Nat.lt_succ_self _)).trans e0,
          (hB.cell (p := ⟨la, 0, none⟩) (by simp; omega)).trans a0, (hB.cell (p := ⟨la, 1, none⟩) (by simp; omega)).trans a1, (hB.cell (p := ⟨la, 3, none⟩) (by simp; omega)).trans a3, (hB.cell (p := ⟨la, 4, none⟩) (by simp; omega)).trans a4,
          (hB.cell (p := ⟨la, 6, none⟩) (by simp; omega)).trans a6, (hB.cell (p := ⟨la, 7, none⟩) (by simp; omega)).trans a7, by omega, by omega, upd_0 _ _ hm'⟩
      have hfin : ∀ w', Below (lb+1) W1 w' → PostO c mb w 0 1 #[ent 0 1 1 0] 1 (.returned (.int .i64 0)) (setAt w' mb (.map #[ent 0 1 1 0] 1)) := by
        intro w' hB
        obtain ⟨_, t0, t1, -⟩ := hT w' hB
        have hs := hB.size
        refine ⟨rfl, ?_, (setAt_cell (by omega)).trans t0, (setAt_cell (by omega)).trans t1, ?_, setAt_same (by omega), by simp [setAt]; omega⟩
        · exact ((((HB0.out.mono (by omega)).trans (hBr.mono (by omega))).trans hBW).trans (hB.mono (by omega))).trans (setAt_below (Nat.le_refl _))
        · rw [setAt_frozen (by omega)]; exact (hB.frozen (p := ⟨c, 0, none⟩) (by simp; omega)).trans g0
      have HT := Lib.hid hT
      have HF := Lib.hid hfin
      have HBr := Lib.hid hBr
      clear hT hfin hBr hba hbc hbm hm1 hBW hBw' c0 c1 f0 sb s0 s1 s3 s4 s6 s7 hc0 hc1 hf hm
      go_region_with ((go_at_call 379; refine (pair_0 lb la 0 1 _ (by simpa using e0) (by simp; omega) (by simp; omega) (by simpa using a0) (by simpa using a1)).mono ?_; rintro e w' ⟨rfl, hb⟩; have hb2 : Below (lb+1) W1 w' := (Below.refl _ W1).drew.trans (hb.mono (by simp; omega)); clear hb; obtain ⟨-, t0, t1, -, -, -, -, -, -, -, -, -, tm⟩ := HT.out _ hb2))
      all_goals go_wp2
      all_goals go_ret
      all_goals exact HF.out _ hb2

end Go.Proofs.YtoaaiffbgiehpaaGreatDoor
