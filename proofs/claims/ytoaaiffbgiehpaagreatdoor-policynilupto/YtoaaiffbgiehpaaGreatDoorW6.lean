/- Next of each of the five policies, at the three choices that awake lends; and New of each. -/
import Derived.Test.YtoaaiffbgiehpaaGreatDoorW50
import Derived.Test.YtoaaiffbgiehpaaGreatDoorW51
import Derived.Test.YtoaaiffbgiehpaaGreatDoorW52
namespace Go.Proofs.YtoaaiffbgiehpaaGreatDoor
open Go.RowKit
theorem meth_1 (w : World) : (method 625 65 (.agg #[]) "chordmail/policy.next").run Tryz.prog w = .ok (370, .agg #[]) w := by kernel_rfl
theorem meth_2 (w : World) : (method 625 66 (.agg #[]) "chordmail/policy.next").run Tryz.prog w = .ok (372, .agg #[]) w := by kernel_rfl
theorem meth_3 (a : Addr) (w : World) : (method 625 67 (.pointer (some a)) "chordmail/policy.next").run Tryz.prog w = .ok (374, .pointer (some a)) w := by kernel_rfl
theorem meth_4 (a : Addr) (w : World) : (method 625 70 (.pointer (some a)) "chordmail/policy.next").run Tryz.prog w = .ok (376, .pointer (some a)) w := by kernel_rfl
theorem meth_5 (a : Addr) (w : World) : (method 625 73 (.pointer (some a)) "chordmail/policy.next").run Tryz.prog w = .ok (378, .pointer (some a)) w := by kernel_rfl

/-- The two results of Next. -/
def Two (r : Int) (R : World → Prop) (e : Ending) (w' : World) : Prop := e = .returned (.tuple #[.int .i64 r, .bool true]) ∧ R w'

set_option maxRecDepth 100000 in
set_option maxHeartbeats 400000 in
theorem next_1 (b : Nat) (a : Option Addr) (w : World) (hb : w.cell? ⟨b, 0, none⟩ = some (.iface 65 (.agg #[]))) :
    Calls Tryz.prog 5 #[.pointer (some ⟨b, 0, none⟩), .slice a 3 3] w (Two 0 (Below w.heap.size w)) := by
  have hm := meth_1
  go_enter Tryz.func5, Tryz.ntmps5
  go_wp2
  go_ret2
  exact ⟨rfl, (Below.refl _ _).alloc (Nat.le_refl _) _⟩
set_option maxRecDepth 100000 in
set_option maxHeartbeats 400000 in
theorem next_2 (b : Nat) (a : Option Addr) (w : World) (hb : w.cell? ⟨b, 0, none⟩ = some (.iface 66 (.agg #[]))) :
    Calls Tryz.prog 5 #[.pointer (some ⟨b, 0, none⟩), .slice a 3 3] w (Two 2 (Below w.heap.size w)) := by
  have hm := meth_2
  go_enter Tryz.func5, Tryz.ntmps5
  go_wp2
  go_ret2
  exact ⟨rfl, (Below.refl _ _).alloc (Nat.le_refl _) _⟩

-- The rule Turns, by its contract: from an actor to an actor.
set_option maxRecDepth 100000 in
set_option maxHeartbeats 400000 in
theorem next_3 (b c : Nat) (a : Addr) (r v : Int) (w : World) (hb : w.cell? ⟨b, 0, none⟩ = some (.iface 67 (.pointer (some ⟨c, 0, none⟩))))
    (hn : Calls Tryz.prog 374 #[.pointer (some ⟨c, 0, none⟩), .slice (some a) 3 3] w (Post1 c w r v)) :
    Calls Tryz.prog 5 #[.pointer (some ⟨b, 0, none⟩), .slice (some a) 3 3] w (Two r fun w' => w'.cell? ⟨c, 0, none⟩ = some (.int .i64 v) ∧ w'.frozen? ⟨c, 0, none⟩ = false ∧ Below c w w') := by
  have hm := meth_3
  have HN := Lib.hid hn
  clear hn
  go_enter Tryz.func5, Tryz.ntmps5
  go_wp2_with (go_at_call 374; refine HN.out.mono ?_; rintro e w' ⟨rfl, h1, h2, h3⟩)
  go_ret2
  exact ⟨rfl, ‹_›, ‹_›, ‹_›⟩

-- The rule Old, by its contract.
set_option maxRecDepth 100000 in
set_option maxHeartbeats 400000 in
theorem next_5 (b c mb : Nat) (a : Addr) (r v : Int) (es : Array MapEntry) (clk : Nat) (w : World) (hb : w.cell? ⟨b, 0, none⟩ = some (.iface 73 (.pointer (some ⟨c, 0, none⟩))))
    (hn : Calls Tryz.prog 378 #[.pointer (some ⟨c, 0, none⟩), .slice (some a) 3 3] w (PostO c mb w r v es clk)) :
    Calls Tryz.prog 5 #[.pointer (some ⟨b, 0, none⟩), .slice (some a) 3 3] w (Two r fun w' => PostO c mb w r v es clk (.returned (.int .i64 r)) w') := by
  have hm := meth_5
  have HN := Lib.hid hn
  clear hn
  go_enter Tryz.func5, Tryz.ntmps5
  go_wp2_with (go_at_call 378; refine HN.out.mono ?_; rintro e w' ⟨rfl, hp⟩; have HP := Lib.hid hp; clear hp)
  go_ret2
  exact ⟨rfl, rfl, HP.out⟩

/-- The rule Lot: the number that follows, and its place among three. -/
def lotN (x : Int) : Int := IntKind.u64.wrap (IntKind.u64.wrap (x * 6364136223846793005) + 1442695040888963407)
set_option maxRecDepth 100000 in
set_option maxHeartbeats 400000 in
theorem lot_any (c : Nat) (a : Option Addr) (x : Int) (w : World) (hc : w.cell? ⟨c, 0, none⟩ = some (.int .u64 x)) (hf : w.frozen? ⟨c, 0, none⟩ = false) :
    Calls Tryz.prog 376 #[.pointer (some ⟨c, 0, none⟩), .slice a 3 3] w fun e w' => e = .returned (.int .i64 (wrap64 ((lotN x / 8589934592).tmod 3))) ∧ w' = w.setCell ⟨c, 0, none⟩ (.int .u64 (lotN x)) := by
  go_enter Tryz.func376, Tryz.ntmps376
  go_wp2
  go_ret
  exact ⟨rfl, rfl⟩
set_option maxRecDepth 100000 in
set_option maxHeartbeats 400000 in
theorem next_4 (b c : Nat) (a : Option Addr) (x y r : Int) (hy : lotN x = y) (hr : wrap64 ((y / 8589934592).tmod 3) = r) (w : World) (hb : w.cell? ⟨b, 0, none⟩ = some (.iface 70 (.pointer (some ⟨c, 0, none⟩)))) (hc : w.cell? ⟨c, 0, none⟩ = some (.int .u64 x)) (hf : w.frozen? ⟨c, 0, none⟩ = false) :
    Calls Tryz.prog 5 #[.pointer (some ⟨b, 0, none⟩), .slice a 3 3] w (Two r fun w' => w' = w.setCell ⟨c, 0, none⟩ (.int .u64 y)) := by
  have hm := meth_4
  have HY := Lib.hid hy
  have HR := Lib.hid hr
  clear hy hr
  go_enter Tryz.func5, Tryz.ntmps5
  go_wp2_with (go_at_call 376; refine (lot_any _ _ _ _ (by assumption) (by assumption)).mono ?_; rw [HY.out, HR.out]; rintro e w' ⟨rfl, rfl⟩)
  go_ret2
  exact ⟨rfl, rfl⟩
theorem lot_0 : lotN 0 = 1442695040888963407 := by decide +kernel
theorem lot_1 : lotN 1442695040888963407 = 1876011003808476466 := by decide +kernel
theorem lot_2 : lotN 1876011003808476466 = 11166244414315200793 := by decide +kernel
end Go.Proofs.YtoaaiffbgiehpaaGreatDoor
