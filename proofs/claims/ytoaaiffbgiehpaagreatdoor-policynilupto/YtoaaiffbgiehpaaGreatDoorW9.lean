/- lent: choices of pairs, up to 1048576 of them. -/
import Derived.Test.YtoaaiffbgiehpaaGreatDoorW1
import Derived.Deep.RegionHeld3
import Derived.Deep.AppendLies
import Derived.Lib.Hide
namespace Go.Proofs.YtoaaiffbgiehpaaGreatDoor
open Go.RowKit
theorem info54 : (Tryz.prog.info? 54).map (fun i => (i.zero, i.size, i.bytes)) = some (some (.agg #[.int .i64 0, .int .i64 0, .slice none 0 0]), 3, 40) := by kernel_rfl
set_option maxRecDepth 100000 in
set_option maxHeartbeats 1000000 in
theorem lent_some (pb off n cp : Nat) (w : World) (hn : n ≤ 1048576) (hpb : pb < w.heap.size)
    (hc : ∀ i, i < n → ∃ x y : Int, w.cell? ⟨pb, off + i * 2, none⟩ = some (.int .i64 x) ∧ w.cell? ⟨pb, off + i * 2 + 1, none⟩ = some (.int .i64 y)) :
    Calls Tryz.prog 6 #[.slice (some ⟨pb, off, none⟩) n cp] w fun e w' => (∃ v, e = .returned v) ∧ Below w.heap.size w w' := by
  obtain ⟨i0, hi0, hz0, hz1, hz2⟩ := info_parts info54
  have HC := Lib.hid hc
  clear hc
  go_enter Tryz.func6, Tryz.ntmps6
  go_wp2
  go_loopw [3, 4] (fun o i wr => ∃ (k : Nat) (xs : List Value), k ≤ n ∧ i = .int .i64 k ∧ wr.ownsRow w.heap.size 54 3 o k xs ∧ Below w.heap.size w wr) (fun _ i _ => n - (intOf i).toNat)
  case atStart => exact ⟨0, [], by omega, rfl, World.ownsRow_nil _ _ _ _, Below.refl _ _⟩
  case round =>
    obtain ⟨k, xs, hk, rfl, hown, hB⟩ := hrel
    by_cases hlt : k < n
    · obtain ⟨x, y, hx, hy⟩ := HC.out k hlt
      have hx' := (hB.cell (p := ⟨pb, off + k * 2, none⟩) hpb).trans hx
      have hy' := (hB.cell (p := ⟨pb, off + k * 2 + 1, none⟩) hpb).trans hy
      have hi0' : (0 : Int) ≤ (k : Int) := Int.natCast_nonneg _
      have hi1 : (k : Int) < (n : Int) := by omega
      have hrow : ∀ r, u3.ownBlock = some r → w.heap.size ≤ r := by
        intro r hr
        rcases hown.2 with ⟨hv, _⟩ | ⟨g, cap, cur, hv, hg, _⟩
        · rw [hv] at hr; simp [Value.ownBlock] at hr
        · rw [hv] at hr; simp [Value.ownBlock] at hr; omega
      have ag : u3.ownBlock ≠ some pb := fun e => by have := hrow pb e; omega
      have AG := Lib.hid ag
      have hpr : pb < wr.heap.size := Nat.lt_of_lt_of_le hpb hB.size
      clear ag
      have HR := Lib.hid hrow
      clear hrow
      go_wp2_with fail
      go_region_held3 (fun w' => w'.cell? ⟨pb, off + k * 2, none⟩ = some (.int .i64 x) ∧ w'.cell? ⟨pb, off + k * 2 + 1, none⟩ = some (.int .i64 y))
        (first
          | go_keep
          | (go_split_ands
             refine ⟨?_, ?_⟩
             · (rw [hgrow.cell_far _ (by simp; omega) (Ne.symm AG.out)]; assumption)
             · (rw [hgrow.cell_far _ (by simp; omega) (Ne.symm AG.out)]; assumption)))
        ((refine step_append_lies _ (by rfl) _ _ _ (by rfl) w.heap.size 54 i0 _ 3 40 Tryz.underlying30 hi0 hz0 hz1 hz2 rfl (by omega) _ k xs (by rfl) ((hown.alloc _).drew)
            ⟨wr.heap.size, 0, none⟩ 1 1 [.int .i64 x, .int .i64 y, .slice none 0 0] (by rfl) (by rfl) (World.news_of_block (cs := #[.int .i64 x, .int .i64 y, .slice none 0 0]) (t := 54) (fr := (0, 0)) (heap_alloc_new wr _)) (by simp [Value.oneCell'])
            (by omega) (by unfold maxLen; omega) (by omega) (by have := hB.size; simp; omega) (wr.heap.size + 1) (by simp) ?_; intro gg cap w1 hown1 hgrow hat hlt))
      go_wp2
      go_roundw
      case rel =>
        refine ⟨k + 1, _, by omega, by go_num, hown1, ?_⟩
        exact ((hB.alloc hB.size _).drew).grown hgrow (by have := hB.size; simp; omega) HR.out
      case measure => simp [intOf]; omega
    · obtain rfl : k = n := by omega
      go_wp2
      go_ret
      exact ⟨⟨_, rfl⟩, hB⟩
set_option maxRecDepth 100000 in
set_option maxHeartbeats 400000 in
theorem lent_nil (w : World) : Calls Tryz.prog 6 #[.slice none 0 0] w fun e w' => (∃ v, e = .returned v) ∧ Below w.heap.size w w' := by
  go_enter Tryz.func6, Tryz.ntmps6
  go_wp2
  refine wp_loop_rounds 1 ?_
  rw [rounds_succ]
  go_wp2
  go_ret
  exact ⟨⟨_, rfl⟩, Below.refl _ _⟩
end Go.Proofs.YtoaaiffbgiehpaaGreatDoor
