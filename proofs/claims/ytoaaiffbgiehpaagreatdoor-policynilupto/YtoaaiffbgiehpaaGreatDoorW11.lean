/- Each at a text of one letter: it hands its loop one token. -/
import Derived.RangeFuncNested
import Derived.RangeFuncBound
import Derived.RangeFuncCalls
import Derived.RangeFuncLeaves
import Derived.Shelf.Abstract
import Derived.Shelf.RegionOpen
import Derived.WalkKit
import Derived.OwnWalkIn
import Derived.TacticsInMore
import Derived.LoopNIn
import Derived.LoopIn
import Derived.Maps.AppendAt
import Derived.Lib.Hide
import Derived.Test.YtoaaiffbgiehpaaGreatDoorW10
namespace Go.Proofs.YtoaaiffbgiehpaaGreatDoor
open Go.RowKit Go.Shelf
attribute [local go_sem] Oper.semAt_some run_store_float

/-- What the body of the loop in Scan keeps: each row of cells but the variable's box. -/
def KeepC (ob : Nat) (W W' : World) : Prop := W.heap.size ≤ W'.heap.size ∧ ∀ k cs t fz, k ≠ ob → W.heap[k]? = some (.cells cs t fz) → W'.heap[k]? = some (.cells cs t fz)
theorem keepC_t {ob : Nat} {A B C : World} (h : KeepC ob A B) (k : KeepC ob B C) : KeepC ob A C := ⟨Nat.le_trans h.1 k.1, fun i cs t fz hi hc => k.2 i cs t fz hi (h.2 i cs t fz hi hc)⟩
theorem keepC_b {ob : Nat} {w : World} (W : World) (l : Nat) (o o' : Obj) (_ : w.heap.size ≤ l) (h : W.heap[l]? = some o) (hc : o.isCells = false) (_ : o.isWalk = false) : KeepC ob W (W.putObj l o') :=
  ⟨by simp [World.putObj], fun k cs t fz _ hk => by
    by_cases e : k = l
    · subst e; rw [h] at hk; cases hk; cases hc
    · exact (World.putObj_heap_other e).trans hk⟩

/-- What is kept below the heap's size is grown. -/
theorem grown_of_below {w w' : World} (h : Below w.heap.size w w') : w.grownBy w' none := ⟨h.os, h.tape, h.output, h.size, fun k hk _ => h.block k hk⟩

/-- The token of a name of one letter. -/
def tokOf (s : ByteArray) : Value := .agg #[.int .i64 1, .string s, .int .i64 0, .float .f64 0, .int .i64 0, .int .i64 1]

set_option maxRecDepth 100000 in
set_option maxHeartbeats 2000000 in
theorem each_in (F : Fence) (n : Nat) (h171 : F.fn 171) (h172 : F.fn 172) (hro : F.round = none) (hn : 2 ≤ n) (s : ByteArray) (l tb sb cp ob : Nat) (ok : World → Prop)
    (hN0 : ∀ W, ok W → CallsIn F (n - 1) Tryz.prog 172 #[.slice (some ⟨sb, 0, none⟩) 1 cp, .int .i64 0] W fun e w' => e = .returned (.tuple #[.agg #[.int .i64 1, .string s, .int .i64 0, .float .f64 0, .int .i64 0, .int .i64 1], .bool true, .int .i64 0]) ∧ Below W.heap.size W w')
    (hN1 : ∀ W, CallsIn F (n - 1) Tryz.prog 172 #[.slice (some ⟨sb, 0, none⟩) 1 cp, .int .i64 1] W fun e w' => e = .returned (.tuple #[.agg #[.int .i64 0, .string ⟨#[]⟩, .int .i64 0, .float .f64 0, .int .i64 0, .int .i64 0], .bool false, .int .i64 0]) ∧ Below W.heap.size W w')
    (J Jx : List Unit → World → Prop) (W : World) (hJ : AbidesFrom W.heap.size J)
    (hY : ∀ pre x W1, J pre W1 → pre.length < 1 → YieldAt F (n - 1) Tryz.prog l #[.agg #[.int .i64 1, .string s, .int .i64 0, .float .f64 0, .int .i64 0, .int .i64 1], .int .i64 0] W1 fun e W' =>
      (e = .returned (.bool true) ∧ J (pre ++ [x]) W' ∧ KeepC ob W1 W') ∨ (e = .returned (.bool false) ∧ Jx (pre ++ [x]) W'))
    (hok : ok W) (htb : tb ≠ ob) (hob : ob < W.heap.size) (hcb : Boxed W tb 238 (.slice (some ⟨sb, 0, none⟩) 1 cp)) (h0 : J [] W) :
    CallsIn F n Tryz.prog 171 #[.func (.yield l) #[] #[], .pointer (some ⟨tb, 0, none⟩)] W fun e W' => (∃ v, e = .returned v) ∧
      ((∃ ys, ys = [()] ∧ J ys W') ∨ (∃ pre, pre <+: [()] ∧ Jx pre W')) := by
  have HN0 := Lib.hid hN0
  have HN1 := Lib.hid hN1
  have HY := Lib.hid hY
  have HJ := Lib.hid hJ
  have HK := Lib.hid hok
  have H0 := Lib.hid h0
  clear hN0 hN1 hY hJ hok h0
  have h1 : 1 ≤ n := by omega
  have hc := hcb.cell
  have hsz := hcb.lt
  refine callsIn_of_wp Tryz.func171 rfl h171 ?_ hro
  simp only [Tryz.ntmps171, List.size_toArray, List.length_cons, List.length_nil, Nat.reduceAdd, Nat.reduceSub, Array.replicate_succ, Array.replicate_zero, List.push_toArray, List.append_toArray, List.nil_append, List.cons_append]
  gi_wp2
  refine wpIn_loop_rounds 2 ?_
  rw [roundsIn_succ]
  gi_wp2_with (gi_at_call 172; refine (HN0.out _ HK.out).mono ?_; rintro e w1 ⟨rfl, hb⟩; have hsz1 := hb.size; have HB1 := Lib.hid hb; have hb2 := hb.alloc hb.size (.cells #[.int .i64 1, .string s, .int .i64 0, .float .f64 0, .int .i64 0, .int .i64 1] 240); have HB2 := Lib.hid hb2; obtain ⟨fn, tmps, assign, body, hy, hR⟩ := HY.out [] () _ (HJ.out _ _ _ none H0.out (grown_of_below hb2) (fun r e => by cases e)) (by simp); have HR := Lib.hid hR; clear hb hb2 hR)
  have hnew : (w1.alloc (.cells #[.int .i64 1, .string s, .int .i64 0, .float .f64 0, .int .i64 0, .int .i64 1] 240)).heap[w1.heap.size]? = some (.cells #[.int .i64 1, .string s, .int .i64 0, .float .f64 0, .int .i64 0, .int .i64 1] 240 (0, 0)) := World.alloc_heap_new _ _
  refine HR.out.mono ?_
  rintro e W3 (⟨rfl, hJ3, hk3⟩ | ⟨rfl, hJx3⟩)
  · have hh := hk3.2 _ _ _ _ (by omega) hnew
    have e4 : W3.cell? ⟨w1.heap.size, 4, none⟩ = some (.int .i64 0) := by simp [World.cell?, hh]
    have e5 : W3.cell? ⟨w1.heap.size, 5, none⟩ = some (.int .i64 1) := by simp [World.cell?, hh]
    have et : W3.cell? ⟨tb, 0, none⟩ = some (.slice (some ⟨sb, 0, none⟩) 1 cp) := by
      have h := hk3.2 tb _ _ _ htb ((HB2.out.block tb hsz).trans hcb)
      simp [World.cell?, h]
    have HJ3 := Lib.hid hJ3
    clear hJ3 hh hnew hc hy
    have hz3 := hk3.1
    have hz4 : W.heap.size ≤ W3.heap.size := by simp at hz3; omega
    clear hz3 hk3
    gi_wp2
    rw [roundsIn_succ]
    gi_wp2_with (gi_at_call 172; refine (HN1.out _).mono ?_; rintro e w4 ⟨rfl, hb⟩; have HB4 := Lib.hid hb; clear hb)
    refine ⟨fun _ h => (by cases h), ?_⟩
    gi_wp2
    refine bodyPost_ret (results_none rfl _ _ _) rfl ?_
    exact ⟨⟨_, rfl⟩, .inl ⟨[()], rfl, HJ.out _ _ _ none (HJ.out _ _ _ none HJ3.out (grown_of_below HB4.out) (fun r e => by cases e)) (World.grownBy_alloc _ _ none) (fun r e => by cases e)⟩⟩
  · gi_wp2
    refine bodyPost_ret (results_none rfl _ _ _) rfl ?_
    exact ⟨⟨_, rfl⟩, .inr ⟨[()], ⟨[], by simp⟩, hJx3⟩⟩
end Go.Proofs.YtoaaiffbgiehpaaGreatDoor
