/- awake: it returns true. -/
import Derived.Test.YtoaaiffbgiehpaaGreatDoorW7
import Derived.Lib.Hide
namespace Go.Proofs.YtoaaiffbgiehpaaGreatDoor
open Go.RowKit

/-- The table of what is wanted, as awake lays it. -/
def WantH (wb : Nat) (w : World) : Prop := ∀ i k, i < 5 → k < 3 → w.cell? ⟨wb, 3 * i + k, none⟩ = some (.int .i64 (want i k))

theorem next_r (i k b la : Nat) (r : Int) (hr : want i k = r) (w : World) (hi : i < 5) (hk : k < 3) (hst : St i k b w) (hl : LH la w) (hla : la < b) :
    Calls Tryz.prog 5 #[.pointer (some ⟨b, 0, none⟩), .slice (some ⟨la, 0, none⟩) 3 3] w (fun e w' => e = .returned (.tuple #[.int .i64 r, .bool true]) ∧ St i (k + 1) b w' ∧ Below b w w') := by
  subst hr; exact next_st i k b la w hi hk hst hl hla
theorem wantH_new (w : World) : WantH w.heap.size (w.alloc (.cells #[.int .i64 0, .int .i64 0, .int .i64 0, .int .i64 2, .int .i64 2, .int .i64 2, .int .i64 0, .int .i64 1, .int .i64 0, .int .i64 2, .int .i64 0, .int .i64 1, .int .i64 0, .int .i64 1, .int .i64 2] 56)) := by
  intro i k hi hk
  rw [World.cell?_alloc_new]
  have hc : i = 0 ∨ i = 1 ∨ i = 2 ∨ i = 3 ∨ i = 4 := by omega
  have hd : k = 0 ∨ k = 1 ∨ k = 2 := by omega
  rcases hc with rfl | rfl | rfl | rfl | rfl <;> rcases hd with rfl | rfl | rfl <;> rfl
theorem LH.below {la B : Nat} {w w' : World} (h : LH la w) (hb : Below B w w') (hl : la < B) : LH la w' := by
  obtain ⟨⟨h0, h1, h2⟩, ⟨h3, h4, h5⟩, ⟨h6, h7, h8⟩⟩ := h
  have hc : ∀ i, w'.cell? ⟨la, i, none⟩ = w.cell? ⟨la, i, none⟩ := fun i => hb.cell (p := ⟨la, i, none⟩) hl
  exact ⟨⟨(hc 0).trans h0, (hc 1).trans h1, (hc 2).trans h2⟩, ⟨(hc 3).trans h3, (hc 4).trans h4, (hc 5).trans h5⟩, ⟨(hc 6).trans h6, (hc 7).trans h7, (hc 8).trans h8⟩⟩
theorem WantH.below {wb B : Nat} {w w' : World} (h : WantH wb w) (hb : Below B w w') (hl : wb < B) : WantH wb w' :=
  fun i k hi hk => (hb.cell (p := ⟨wb, 3 * i + k, none⟩) hl).trans (h i k hi hk)
theorem lh_new (w : World) : LH w.heap.size (w.alloc (.cells #[.int .i64 0, .int .i64 1, .slice none 0 0, .int .i64 2, .int .i64 0, .slice none 0 0, .int .i64 2, .int .i64 3, .slice none 0 0] 54)) := by
  refine ⟨⟨?_, ?_, ?_⟩, ⟨?_, ?_, ?_⟩, ⟨?_, ?_, ?_⟩⟩ <;> (rw [World.cell?_alloc_new]; rfl)

set_option maxRecDepth 100000 in
set_option maxHeartbeats 1000000 in
theorem awake_any (w : World) :
    Calls Tryz.prog 4 #[] w fun e w' => e = .returned (.bool true) ∧ Below w.heap.size w w' := by
  have h1 := lh_new w
  have h2 := wantH_new (w.alloc (.cells #[.int .i64 0, .int .i64 1, .slice none 0 0, .int .i64 2, .int .i64 0, .slice none 0 0, .int .i64 2, .int .i64 3, .slice none 0 0] 54))
  rw [World.size_alloc] at h2
  have hB : Below w.heap.size w ((w.alloc (.cells #[.int .i64 0, .int .i64 1, .slice none 0 0, .int .i64 2, .int .i64 0, .slice none 0 0, .int .i64 2, .int .i64 3, .slice none 0 0] 54)).alloc
    (.cells #[.int .i64 0, .int .i64 0, .int .i64 0, .int .i64 2, .int .i64 2, .int .i64 2, .int .i64 0, .int .i64 1, .int .i64 0, .int .i64 2, .int .i64 0, .int .i64 1, .int .i64 0, .int .i64 1, .int .i64 2] 56)) :=
    ((Below.refl _ _).alloc (Nat.le_refl _) _).alloc (by simp) _
  have h1' := h1.below ((Below.refl (w.heap.size + 1) _).alloc (by simp) (.cells #[.int .i64 0, .int .i64 0, .int .i64 0, .int .i64 2, .int .i64 2, .int .i64 2, .int .i64 0, .int .i64 1, .int .i64 0, .int .i64 2, .int .i64 0, .int .i64 1, .int .i64 0, .int .i64 1, .int .i64 2] 56)) (by omega)
  have hsz : w.heap.size + 1 < ((w.alloc (.cells #[.int .i64 0, .int .i64 1, .slice none 0 0, .int .i64 2, .int .i64 0, .slice none 0 0, .int .i64 2, .int .i64 3, .slice none 0 0] 54)).alloc
    (.cells #[.int .i64 0, .int .i64 0, .int .i64 0, .int .i64 2, .int .i64 2, .int .i64 2, .int .i64 0, .int .i64 1, .int .i64 0, .int .i64 2, .int .i64 0, .int .i64 1, .int .i64 0, .int .i64 1, .int .i64 2] 56)).heap.size := by simp
  clear h1
  have H1 := Lib.hid h1'
  have H2 := Lib.hid h2
  have HB := Lib.hid hB
  have HZ := Lib.hid hsz
  clear h1' h2 hB hsz
  go_enter Tryz.func4, Tryz.ntmps4
  go_wp2_with fail
  generalize (w.alloc (.cells #[.int .i64 0, .int .i64 1, .slice none 0 0, .int .i64 2, .int .i64 0, .slice none 0 0, .int .i64 2, .int .i64 3, .slice none 0 0] 54)).alloc
    (.cells #[.int .i64 0, .int .i64 0, .int .i64 0, .int .i64 2, .int .i64 2, .int .i64 2, .int .i64 0, .int .i64 1, .int .i64 0, .int .i64 2, .int .i64 0, .int .i64 1, .int .i64 0, .int .i64 1, .int .i64 2] 56) = W0 at *
  go_loopw [3] (fun i wr => ∃ n : Nat, n ≤ 5 ∧ i = .int .i64 n ∧ Below w.heap.size w wr ∧ LH w.heap.size wr ∧ WantH (w.heap.size + 1) wr ∧ w.heap.size + 1 < wr.heap.size) (fun i _ => 5 - (intOf i).toNat)
  case atStart => exact ⟨0, by omega, rfl, HB.out, H1.out, H2.out, HZ.out⟩
  case round =>
    obtain ⟨n, hn, rfl, hBr, hl, hw, hlt⟩ := hrel
    have HBR := Lib.hid hBr
    have HLH := Lib.hid hl
    have HWH := Lib.hid hw
    clear hBr hl hw H1 H2 HB HZ
    have hcases : n = 0 ∨ n = 1 ∨ n = 2 ∨ n = 3 ∨ n = 4 ∨ n = 5 := by omega
    rcases hcases with rfl | rfl | rfl | rfl | rfl | rfl
    all_goals simp only [Int.cast_ofNat_Int]
    · go_wp2_with (go_at_call 7; refine (new_1 _ _).mono ?_; rintro e w1 ⟨rfl, hst, hbn⟩; have HST := Lib.hid hst; have HBN := Lib.hid hbn; clear hst hbn)
      obtain ⟨wo, rfl⟩ : ∃ wo : World, wo = wr := ⟨_, rfl⟩
      have HL1 := Lib.hid (HLH.out.below HBN.out (by omega))
      have HW1 := Lib.hid (HWH.out.below HBN.out (by omega))
      go_loopw [6] (fun k wi => ∃ m : Nat, m ≤ 3 ∧ k = .int .i64 m ∧ St 0 m wo.heap.size wi ∧ Below wo.heap.size w1 wi) (fun k _ => 3 - (intOf k).toNat)
      case atStart => exact ⟨0, by omega, rfl, HST.out, Below.refl _ _⟩
      case round =>
        obtain ⟨m, hm, rfl, hst, hbi⟩ := hrel
        have HSI := Lib.hid hst
        have HBI := Lib.hid hbi
        have HLI := Lib.hid (HL1.out.below hbi (by omega))
        have HWI := Lib.hid (HW1.out.below hbi (by omega))
        clear hst hbi
        have hcases : m = 0 ∨ m = 1 ∨ m = 2 ∨ m = 3 := by omega
        rcases hcases with rfl | rfl | rfl | rfl
        all_goals simp only [Int.cast_ofNat_Int]
        · go_wp2_with (go_at_call 5; refine (next_r 0 0 _ _ 0 rfl _ (by omega) (by omega) HSI.out HLI.out (by omega)).mono ?_; rintro e w' ⟨rfl, hst, hbn⟩; have hwc : w'.cell? ⟨w.heap.size + 1, 0, none⟩ = some (.int .i64 0) := HWI.out.below hbn (by omega) 0 0 (by omega) (by omega); have HS2 := Lib.hid hst; have HB2 := Lib.hid hbn; clear hst hbn)
          go_roundw
          case rel => exact ⟨1, by omega, by go_num, HS2.out, HBI.out.trans HB2.out⟩
          case measure => simp [intOf]
        · go_wp2_with (go_at_call 5; refine (next_r 0 1 _ _ 0 rfl _ (by omega) (by omega) HSI.out HLI.out (by omega)).mono ?_; rintro e w' ⟨rfl, hst, hbn⟩; have hwc : w'.cell? ⟨w.heap.size + 1, 1, none⟩ = some (.int .i64 0) := HWI.out.below hbn (by omega) 0 1 (by omega) (by omega); have HS2 := Lib.hid hst; have HB2 := Lib.hid hbn; clear hst hbn)
          go_roundw
          case rel => exact ⟨2, by omega, by go_num, HS2.out, HBI.out.trans HB2.out⟩
          case measure => simp [intOf]
        · go_wp2_with (go_at_call 5; refine (next_r 0 2 _ _ 0 rfl _ (by omega) (by omega) HSI.out HLI.out (by omega)).mono ?_; rintro e w' ⟨rfl, hst, hbn⟩; have hwc : w'.cell? ⟨w.heap.size + 1, 2, none⟩ = some (.int .i64 0) := HWI.out.below hbn (by omega) 0 2 (by omega) (by omega); have HS2 := Lib.hid hst; have HB2 := Lib.hid hbn; clear hst hbn)
          go_roundw
          case rel => exact ⟨3, by omega, by go_num, HS2.out, HBI.out.trans HB2.out⟩
          case measure => simp [intOf]
        · go_wp2
          go_roundw
          case rel => exact ⟨1, by omega, by go_num, HBR.out.trans ((HBN.out.trans HBI.out).mono (by omega)), HLI.out, HWI.out, Nat.lt_of_lt_of_le hlt (Nat.le_trans HBN.out.size HBI.out.size)⟩
          case measure => simp [intOf]
    · go_wp2_with (go_at_call 7; refine (new_2 _ _).mono ?_; rintro e w1 ⟨rfl, hst, hbn⟩; have HST := Lib.hid hst; have HBN := Lib.hid hbn; clear hst hbn)
      obtain ⟨wo, rfl⟩ : ∃ wo : World, wo = wr := ⟨_, rfl⟩
      have HL1 := Lib.hid (HLH.out.below HBN.out (by omega))
      have HW1 := Lib.hid (HWH.out.below HBN.out (by omega))
      go_loopw [6] (fun k wi => ∃ m : Nat, m ≤ 3 ∧ k = .int .i64 m ∧ St 1 m wo.heap.size wi ∧ Below wo.heap.size w1 wi) (fun k _ => 3 - (intOf k).toNat)
      case atStart => exact ⟨0, by omega, rfl, HST.out, Below.refl _ _⟩
      case round =>
        obtain ⟨m, hm, rfl, hst, hbi⟩ := hrel
        have HSI := Lib.hid hst
        have HBI := Lib.hid hbi
        have HLI := Lib.hid (HL1.out.below hbi (by omega))
        have HWI := Lib.hid (HW1.out.below hbi (by omega))
        clear hst hbi
        have hcases : m = 0 ∨ m = 1 ∨ m = 2 ∨ m = 3 := by omega
        rcases hcases with rfl | rfl | rfl | rfl
        all_goals simp only [Int.cast_ofNat_Int]
        · go_wp2_with (go_at_call 5; refine (next_r 1 0 _ _ 2 rfl _ (by omega) (by omega) HSI.out HLI.out (by omega)).mono ?_; rintro e w' ⟨rfl, hst, hbn⟩; have hwc : w'.cell? ⟨w.heap.size + 1, 3, none⟩ = some (.int .i64 2) := HWI.out.below hbn (by omega) 1 0 (by omega) (by omega); have HS2 := Lib.hid hst; have HB2 := Lib.hid hbn; clear hst hbn)
          go_roundw
          case rel => exact ⟨1, by omega, by go_num, HS2.out, HBI.out.trans HB2.out⟩
          case measure => simp [intOf]
        · go_wp2_with (go_at_call 5; refine (next_r 1 1 _ _ 2 rfl _ (by omega) (by omega) HSI.out HLI.out (by omega)).mono ?_; rintro e w' ⟨rfl, hst, hbn⟩; have hwc : w'.cell? ⟨w.heap.size + 1, 4, none⟩ = some (.int .i64 2) := HWI.out.below hbn (by omega) 1 1 (by omega) (by omega); have HS2 := Lib.hid hst; have HB2 := Lib.hid hbn; clear hst hbn)
          go_roundw
          case rel => exact ⟨2, by omega, by go_num, HS2.out, HBI.out.trans HB2.out⟩
          case measure => simp [intOf]
        · go_wp2_with (go_at_call 5; refine (next_r 1 2 _ _ 2 rfl _ (by omega) (by omega) HSI.out HLI.out (by omega)).mono ?_; rintro e w' ⟨rfl, hst, hbn⟩; have hwc : w'.cell? ⟨w.heap.size + 1, 5, none⟩ = some (.int .i64 2) := HWI.out.below hbn (by omega) 1 2 (by omega) (by omega); have HS2 := Lib.hid hst; have HB2 := Lib.hid hbn; clear hst hbn)
          go_roundw
          case rel => exact ⟨3, by omega, by go_num, HS2.out, HBI.out.trans HB2.out⟩
          case measure => simp [intOf]
        · go_wp2
          go_roundw
          case rel => exact ⟨2, by omega, by go_num, HBR.out.trans ((HBN.out.trans HBI.out).mono (by omega)), HLI.out, HWI.out, Nat.lt_of_lt_of_le hlt (Nat.le_trans HBN.out.size HBI.out.size)⟩
          case measure => simp [intOf]
    · go_wp2_with (go_at_call 7; refine (new_3 _ _).mono ?_; rintro e w1 ⟨rfl, hst, hbn⟩; have HST := Lib.hid hst; have HBN := Lib.hid hbn; clear hst hbn)
      obtain ⟨wo, rfl⟩ : ∃ wo : World, wo = wr := ⟨_, rfl⟩
      have HL1 := Lib.hid (HLH.out.below HBN.out (by omega))
      have HW1 := Lib.hid (HWH.out.below HBN.out (by omega))
      go_loopw [6] (fun k wi => ∃ m : Nat, m ≤ 3 ∧ k = .int .i64 m ∧ St 2 m wo.heap.size wi ∧ Below wo.heap.size w1 wi) (fun k _ => 3 - (intOf k).toNat)
      case atStart => exact ⟨0, by omega, rfl, HST.out, Below.refl _ _⟩
      case round =>
        obtain ⟨m, hm, rfl, hst, hbi⟩ := hrel
        have HSI := Lib.hid hst
        have HBI := Lib.hid hbi
        have HLI := Lib.hid (HL1.out.below hbi (by omega))
        have HWI := Lib.hid (HW1.out.below hbi (by omega))
        clear hst hbi
        have hcases : m = 0 ∨ m = 1 ∨ m = 2 ∨ m = 3 := by omega
        rcases hcases with rfl | rfl | rfl | rfl
        all_goals simp only [Int.cast_ofNat_Int]
        · go_wp2_with (go_at_call 5; refine (next_r 2 0 _ _ 0 rfl _ (by omega) (by omega) HSI.out HLI.out (by omega)).mono ?_; rintro e w' ⟨rfl, hst, hbn⟩; have hwc : w'.cell? ⟨w.heap.size + 1, 6, none⟩ = some (.int .i64 0) := HWI.out.below hbn (by omega) 2 0 (by omega) (by omega); have HS2 := Lib.hid hst; have HB2 := Lib.hid hbn; clear hst hbn)
          go_roundw
          case rel => exact ⟨1, by omega, by go_num, HS2.out, HBI.out.trans HB2.out⟩
          case measure => simp [intOf]
        · go_wp2_with (go_at_call 5; refine (next_r 2 1 _ _ 1 rfl _ (by omega) (by omega) HSI.out HLI.out (by omega)).mono ?_; rintro e w' ⟨rfl, hst, hbn⟩; have hwc : w'.cell? ⟨w.heap.size + 1, 7, none⟩ = some (.int .i64 1) := HWI.out.below hbn (by omega) 2 1 (by omega) (by omega); have HS2 := Lib.hid hst; have HB2 := Lib.hid hbn; clear hst hbn)
          go_roundw
          case rel => exact ⟨2, by omega, by go_num, HS2.out, HBI.out.trans HB2.out⟩
          case measure => simp [intOf]
        · go_wp2_with (go_at_call 5; refine (next_r 2 2 _ _ 0 rfl _ (by omega) (by omega) HSI.out HLI.out (by omega)).mono ?_; rintro e w' ⟨rfl, hst, hbn⟩; have hwc : w'.cell? ⟨w.heap.size + 1, 8, none⟩ = some (.int .i64 0) := HWI.out.below hbn (by omega) 2 2 (by omega) (by omega); have HS2 := Lib.hid hst; have HB2 := Lib.hid hbn; clear hst hbn)
          go_roundw
          case rel => exact ⟨3, by omega, by go_num, HS2.out, HBI.out.trans HB2.out⟩
          case measure => simp [intOf]
        · go_wp2
          go_roundw
          case rel => exact ⟨3, by omega, by go_num, HBR.out.trans ((HBN.out.trans HBI.out).mono (by omega)), HLI.out, HWI.out, Nat.lt_of_lt_of_le hlt (Nat.le_trans HBN.out.size HBI.out.size)⟩
          case measure => simp [intOf]
    · go_wp2_with (go_at_call 7; refine (new_4 _ rfl _).mono ?_; rintro e w1 ⟨rfl, hst, hbn⟩; have HST := Lib.hid hst; have HBN := Lib.hid hbn; clear hst hbn)
      obtain ⟨wo, rfl⟩ : ∃ wo : World, wo = wr := ⟨_, rfl⟩
      have HL1 := Lib.hid (HLH.out.below HBN.out (by omega))
      have HW1 := Lib.hid (HWH.out.below HBN.out (by omega))
      go_loopw [6] (fun k wi => ∃ m : Nat, m ≤ 3 ∧ k = .int .i64 m ∧ St 3 m wo.heap.size wi ∧ Below wo.heap.size w1 wi) (fun k _ => 3 - (intOf k).toNat)
      case atStart => exact ⟨0, by omega, rfl, HST.out, Below.refl _ _⟩
      case round =>
        obtain ⟨m, hm, rfl, hst, hbi⟩ := hrel
        have HSI := Lib.hid hst
        have HBI := Lib.hid hbi
        have HLI := Lib.hid (HL1.out.below hbi (by omega))
        have HWI := Lib.hid (HW1.out.below hbi (by omega))
        clear hst hbi
        have hcases : m = 0 ∨ m = 1 ∨ m = 2 ∨ m = 3 := by omega
        rcases hcases with rfl | rfl | rfl | rfl
        all_goals simp only [Int.cast_ofNat_Int]
        · go_wp2_with (go_at_call 5; refine (next_r 3 0 _ _ 2 rfl _ (by omega) (by omega) HSI.out HLI.out (by omega)).mono ?_; rintro e w' ⟨rfl, hst, hbn⟩; have hwc : w'.cell? ⟨w.heap.size + 1, 9, none⟩ = some (.int .i64 2) := HWI.out.below hbn (by omega) 3 0 (by omega) (by omega); have HS2 := Lib.hid hst; have HB2 := Lib.hid hbn; clear hst hbn)
          go_roundw
          case rel => exact ⟨1, by omega, by go_num, HS2.out, HBI.out.trans HB2.out⟩
          case measure => simp [intOf]
        · go_wp2_with (go_at_call 5; refine (next_r 3 1 _ _ 0 rfl _ (by omega) (by omega) HSI.out HLI.out (by omega)).mono ?_; rintro e w' ⟨rfl, hst, hbn⟩; have hwc : w'.cell? ⟨w.heap.size + 1, 10, none⟩ = some (.int .i64 0) := HWI.out.below hbn (by omega) 3 1 (by omega) (by omega); have HS2 := Lib.hid hst; have HB2 := Lib.hid hbn; clear hst hbn)
          go_roundw
          case rel => exact ⟨2, by omega, by go_num, HS2.out, HBI.out.trans HB2.out⟩
          case measure => simp [intOf]
        · go_wp2_with (go_at_call 5; refine (next_r 3 2 _ _ 1 rfl _ (by omega) (by omega) HSI.out HLI.out (by omega)).mono ?_; rintro e w' ⟨rfl, hst, hbn⟩; have hwc : w'.cell? ⟨w.heap.size + 1, 11, none⟩ = some (.int .i64 1) := HWI.out.below hbn (by omega) 3 2 (by omega) (by omega); have HS2 := Lib.hid hst; have HB2 := Lib.hid hbn; clear hst hbn)
          go_roundw
          case rel => exact ⟨3, by omega, by go_num, HS2.out, HBI.out.trans HB2.out⟩
          case measure => simp [intOf]
        · go_wp2
          go_roundw
          case rel => exact ⟨4, by omega, by go_num, HBR.out.trans ((HBN.out.trans HBI.out).mono (by omega)), HLI.out, HWI.out, Nat.lt_of_lt_of_le hlt (Nat.le_trans HBN.out.size HBI.out.size)⟩
          case measure => simp [intOf]
    · go_wp2_with (go_at_call 7; refine (new_5 _ _).mono ?_; rintro e w1 ⟨rfl, hst, hbn⟩; have HST := Lib.hid hst; have HBN := Lib.hid hbn; clear hst hbn)
      obtain ⟨wo, rfl⟩ : ∃ wo : World, wo = wr := ⟨_, rfl⟩
      have HL1 := Lib.hid (HLH.out.below HBN.out (by omega))
      have HW1 := Lib.hid (HWH.out.below HBN.out (by omega))
      go_loopw [6] (fun k wi => ∃ m : Nat, m ≤ 3 ∧ k = .int .i64 m ∧ St 4 m wo.heap.size wi ∧ Below wo.heap.size w1 wi) (fun k _ => 3 - (intOf k).toNat)
      case atStart => exact ⟨0, by omega, rfl, HST.out, Below.refl _ _⟩
      case round =>
        obtain ⟨m, hm, rfl, hst, hbi⟩ := hrel
        have HSI := Lib.hid hst
        have HBI := Lib.hid hbi
        have HLI := Lib.hid (HL1.out.below hbi (by omega))
        have HWI := Lib.hid (HW1.out.below hbi (by omega))
        clear hst hbi
        have hcases : m = 0 ∨ m = 1 ∨ m = 2 ∨ m = 3 := by omega
        rcases hcases with rfl | rfl | rfl | rfl
        all_goals simp only [Int.cast_ofNat_Int]
        · go_wp2_with (go_at_call 5; refine (next_r 4 0 _ _ 0 rfl _ (by omega) (by omega) HSI.out HLI.out (by omega)).mono ?_; rintro e w' ⟨rfl, hst, hbn⟩; have hwc : w'.cell? ⟨w.heap.size + 1, 12, none⟩ = some (.int .i64 0) := HWI.out.below hbn (by omega) 4 0 (by omega) (by omega); have HS2 := Lib.hid hst; have HB2 := Lib.hid hbn; clear hst hbn)
          go_roundw
          case rel => exact ⟨1, by omega, by go_num, HS2.out, HBI.out.trans HB2.out⟩
          case measure => simp [intOf]
        · go_wp2_with (go_at_call 5; refine (next_r 4 1 _ _ 1 rfl _ (by omega) (by omega) HSI.out HLI.out (by omega)).mono ?_; rintro e w' ⟨rfl, hst, hbn⟩; have hwc : w'.cell? ⟨w.heap.size + 1, 13, none⟩ = some (.int .i64 1) := HWI.out.below hbn (by omega) 4 1 (by omega) (by omega); have HS2 := Lib.hid hst; have HB2 := Lib.hid hbn; clear hst hbn)
          go_roundw
          case rel => exact ⟨2, by omega, by go_num, HS2.out, HBI.out.trans HB2.out⟩
          case measure => simp [intOf]
        · go_wp2_with (go_at_call 5; refine (next_r 4 2 _ _ 2 rfl _ (by omega) (by omega) HSI.out HLI.out (by omega)).mono ?_; rintro e w' ⟨rfl, hst, hbn⟩; have hwc : w'.cell? ⟨w.heap.size + 1, 14, none⟩ = some (.int .i64 2) := HWI.out.below hbn (by omega) 4 2 (by omega) (by omega); have HS2 := Lib.hid hst; have HB2 := Lib.hid hbn; clear hst hbn)
          go_roundw
          case rel => exact ⟨3, by omega, by go_num, HS2.out, HBI.out.trans HB2.out⟩
          case measure => simp [intOf]
        · go_wp2
          go_roundw
          case rel => exact ⟨5, by omega, by go_num, HBR.out.trans ((HBN.out.trans HBI.out).mono (by omega)), HLI.out, HWI.out, Nat.lt_of_lt_of_le hlt (Nat.le_trans HBN.out.size HBI.out.size)⟩
          case measure => simp [intOf]
    · go_wp2_with (go_at_call 7; refine (new_other 6 _ _ (by omega)).mono ?_; rintro e w' ⟨rfl, hbn⟩; have HBN := Lib.hid hbn; clear hbn)
      go_ret
      exact ⟨rfl, HBR.out.trans (HBN.out.mono (by omega))⟩

end Go.Proofs.YtoaaiffbgiehpaaGreatDoor
