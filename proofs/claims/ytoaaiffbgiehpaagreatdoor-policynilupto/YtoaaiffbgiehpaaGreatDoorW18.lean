/- PolicyNil: the argument opened (a struct of four fields, the third a slice of pairs), what the bound gives, and the contract for every argument. -/
import Derived.Test.YtoaaiffbgiehpaaGreatDoorRows
import Derived.Test.YtoaaiffbgiehpaaGreatDoorW17
import Derived.WalkKit
import Derived.ProofKit
import Derived.OpenShut
import Derived.Carry
import Derived.Deep.Slices
import Derived.Deep.Fields
import Derived.ChangeSame
import Derived.Lib.SmallJoins
namespace Go.Proofs.YtoaaiffbgiehpaaGreatDoor
open Go.ChangeShapes Go.WideShapes Go.ChangeAt Go.RowKit Go.Deep Go.Joins

/-- An address whose cell is there carries no spot. -/
theorem spot_none {w : World} {a : Addr} {v : Value} (h : w.cell? a = some v) : a.spot = none := by
  unfold World.cell? at h
  split at h
  · cases hs : a.spot with
    | none => rfl
    | some _ => simp [hs] at h
  · cases h
theorem at_add {a : Addr} (hs : a.spot = none) (k : Nat) : a.add k = ⟨a.block, a.off + k, none⟩ := by
  obtain ⟨b, o, s⟩ := a
  obtain rfl : s = none := hs
  unfold Addr.add
  by_cases h : k = 0 <;> simp [h]

/-- What the bound gives. -/
theorem bulk_one {H : Type} (d : DataW H) : 1 ≤ Rows.uptoBulk d := by
  cases d with
  | lit l => cases l <;> simp [Rows.uptoBulk]
  | nil => simp [Rows.uptoBulk]
  | ptr d => simp [Rows.uptoBulk]
  | slice elems spare => simp [Rows.uptoBulk]
  | agg parts => simp [Rows.uptoBulk]
  | iface t d => simp [Rows.uptoBulk]
  | map entries => simp [Rows.uptoBulk]
  | held h => simp [Rows.uptoBulk]
theorem bulk_len {H : Type} (l : List (DataW H)) : l.length ≤ Rows.uptoBulkAll l := by
  induction l with
  | nil => simp [Rows.uptoBulkAll]
  | cons x r ih => have := bulk_one x; simp only [Rows.uptoBulkAll, List.length_cons]; omega
theorem bulk_list {H : Type} {a b c : DataW H} {l s : List (DataW H)} (hk : Rows.uptoSmall H [.agg [a, b, .slice l s, c]] = true) : l.length ≤ 1048576 := by
  have h : Rows.uptoBulkAll [DataW.agg [a, b, .slice l s, c]] ≤ 1048576 := of_decide_eq_true hk
  simp only [Rows.uptoBulkAll, Rows.uptoBulk] at h
  have := bulk_len l
  omega

theorem lent_zero (a : Option Addr) (cp : Nat) (w : World) : Calls Tryz.prog 6 #[.slice a 0 cp] w fun e w' => (∃ v, e = .returned v) ∧ Below w.heap.size w w' := by
  go_enter Tryz.func6, Tryz.ntmps6
  go_wp2
  refine wp_loop_rounds 1 ?_
  rw [rounds_succ]
  go_wp2
  go_ret
  exact ⟨⟨_, rfl⟩, Below.refl _ _⟩

/-- The law, whatever kind and number. -/
theorem law_any (k s m : Int) (l : Value) (w : World) (hl : Lent l w) :
    Calls Tryz.prog 3 #[.agg #[.int .i64 k, .int .u64 s, l, .int .i64 m]] w fun e w' => e = .returned (.bool true) ∧ Below w.heap.size w w' := by
  by_cases hk : 1 ≤ k ∧ k ≤ 5
  · by_cases hm : 0 ≤ m ∧ m ≤ 4096
    · exact law_near k s m l w hk.1 hk.2 hm.1 hm.2 hl
    · exact law_far k s m l w hk.1 hk.2 (by omega) hl
  · exact law_bad k s m l w (by omega) hl

theorem laidOut : laidOutB Tryz.prog = true := by kernel_rfl
theorem cells25 : Tryz.prog.cellsOf 25 = 4 := by kernel_rfl
theorem cells3 : Tryz.prog.cellsOf 3 = 1 := by kernel_rfl
theorem cells63 : Tryz.prog.cellsOf 63 = 2 := by kernel_rfl

set_option maxRecDepth 100000 in
/-- A list of pairs that reads as data: it is nil, or each pair's two integers lie in its cells; its datum is as long as it is. -/
theorem pairs_of {H : Type} {enc : TypeId × Value → H} {W : World} {spare : Nat → Bool} {held : Bool} {n : Nat} {v : Value} {y : DataW H × List MemPlace}
    (hsp : ∀ k, spare k = true) (h : DataW.trod enc Tryz.prog W 0 spare held n 23 [v] = some y) :
    v = .slice none 0 0 ∨ ∃ (ad : Addr) (len cap : Nat) (l s : List (DataW H)), v = .slice (some ad) len cap ∧ y.1 = .slice l s ∧ l.length = len ∧
      ∀ i, i < len → ∃ x z : Int, W.cell? (ad.add (i * 2)) = some (.int .i64 x) ∧ W.cell? (ad.add (i * 2 + 1)) = some (.int .i64 z) := by
  rcases open_slice Tryz.underlying23 h with ⟨hcs, _⟩ | ⟨ad, len, cap, m, n', D, Pl, hcs, _, hl, _, hm, rfl, hel⟩
  · exact .inl (by simpa using hcs)
  · rw [if_pos (hsp _)] at hm
    subst hm
    refine .inr ⟨ad, len, m, _, _, by simpa using hcs, rfl, by simp, fun i hi => ?_⟩
    obtain ⟨cs', hc, ht⟩ := hel i (by omega)
    rw [cells63] at hc
    obtain ⟨y0, y1, n2, _, _, t0, t1⟩ := trod_struct2 Tryz.underlying63 ht
    obtain ⟨_, hlen, hat⟩ := World.cells?_some hc
    match cs', hlen with
    | [c0, c1], _ =>
      have e0 := hat 0 (by omega)
      have e1 := hat 1 (by omega)
      rw [cells3] at t0 t1
      obtain ⟨x, g0, _, _⟩ := DataW.trod_int Tryz.underlying3 t0
      obtain ⟨z, g1, _, _⟩ := DataW.trod_int Tryz.underlying3 t1
      obtain rfl : c0 = .int .i64 x := by simpa using g0
      obtain rfl : c1 = .int .i64 z := by simpa using g1
      exact ⟨x, z, by simpa [Addr.add] using e0, by rw [← Go.Deep.add_add]; simpa using e1⟩

set_option maxRecDepth 100000 in
/-- Every list that reads as data, of bulk within the bound, can be lent. -/
theorem lent_of {H : Type} {enc : TypeId × Value → H} {W : World} {spare : Nat → Bool} {held : Bool} {n : Nat} {v : Value} {y a b c : DataW H × List MemPlace}
    (hsp : ∀ k, spare k = true) (h : DataW.trod enc Tryz.prog W 0 spare held n 23 [v] = some y) (hk : Rows.uptoSmall H [.agg [a.1, b.1, y.1, c.1]] = true) : Lent v W := by
  intro W2 hB
  rcases pairs_of hsp h with rfl | ⟨ad, len, cap, ls, sp, rfl, hy, hl, hc⟩
  · exact lent_nil W2
  · rw [hy] at hk
    have hlen : len ≤ 1048576 := hl ▸ bulk_list hk
    cases len with
    | zero => exact lent_zero _ _ W2
    | succ n0 =>
      obtain ⟨x0, _, h0, _⟩ := hc 0 (by omega)
      have hs : ad.spot = none := by
        have := spot_none h0
        simpa [Addr.add] using this
      have hlt : ad.block < W.heap.size := by
        have := World.block_lt_of_cell? _ _ h0
        simpa [Addr.add] using this
      obtain ⟨pb, off, st⟩ := ad
      obtain rfl : st = none := hs
      refine lent_some pb off (n0 + 1) cap W2 hlen (Nat.lt_of_lt_of_le hlt hB.size) fun i hi => ?_
      obtain ⟨x, z, hx, hz⟩ := hc i hi
      rw [at_add rfl] at hx hz
      exact ⟨x, z, (hB.cell (p := ⟨pb, off + i * 2, none⟩) hlt).trans hx, (hB.cell (p := ⟨pb, off + i * 2 + 1, none⟩) hlt).trans (by rw [Nat.add_assoc]; exact hz)⟩

set_option maxRecDepth 100000 in
/-- THE CONTRACT, for every argument within the bound. -/
theorem contract (H : Type) (enc : TypeId × Value → H) (W : World) (base : Nat) (args : Array Value) (ds gs : List (DataW H)) (before : List MemPlace)
    (hval : ∀ (j : Nat) t v, Tryz.f3.params[j]? = some t → args[j]? = some v → Value.okWide Tryz.prog W .any base t v)
    (hW : DataW.Whole enc Tryz.prog Tryz.f3.params.toList Rows.policyNilSpec.vars false W args.toList ds gs before) (hk : Rows.uptoSmall H (ds ++ gs) = true) :
    Calls Tryz.prog 3 args W fun e W' => ∃ v, e = .returned v ∧ Rows.policyNilSpec.post enc Tryz.prog Tryz.f3 false true false false W args v W' := by
  have hW' := hW
  obtain ⟨p, q, hA0, hV, rfl, hfz, hnd⟩ := hW
  have hA : DataW.TrodAll enc Tryz.prog W 0 (fun _ => true) true Tryz.f3.params.toList args.toList ds p := hA0
  rw [Tryz.params3] at hA hval
  obtain ⟨v0, d0, rfl, rfl, h0⟩ := trodAll_one hA
  obtain ⟨rfl, rfl⟩ := trodVars_none hV
  have h0k := h0
  obtain ⟨c0, c1, c2, c3, y0, y1, y2, y3, n, rfl, rfl, _, t0, t1, t2, t3⟩ := open_agg4 Tryz.underlying25 (by kernel_rfl) cells25 (hval 0 25 v0 rfl rfl) h0
  obtain ⟨k, e0, _, _⟩ := DataW.trod_int Tryz.underlying3 t0
  obtain ⟨s, e1, _, _⟩ := DataW.trod_int Tryz.underlying22 t1
  obtain ⟨m, e3, _, _⟩ := DataW.trod_int Tryz.underlying3 t3
  obtain rfl : c0 = .int .i64 k := by simpa using e0
  obtain rfl : c1 = .int .u64 s := by simpa using e1
  obtain rfl : c3 = .int .i64 m := by simpa using e3
  clear hA0
  simp only [List.append_nil] at hW' hk
  have hlt : ∀ x ∈ p, x.block < W.heap.size := fun x hx => by simpa using hW'.lt x hx
  refine (law_any k s m c2 W (lent_of (fun _ => rfl) t2 hk)).mono fun e W' ⟨he, hb⟩ => ?_
  subst he
  have hargs := Below.trod laidOut (by kernel_rfl) (of_decide_eq_true (by kernel_rfl)) h0k hb hlt
  exact ⟨_, rfl, _, _, _, [], _, [], hW', trodAll_mk1 (shut_bool Tryz.underlying4 _), trodAll_mk1 hargs, rfl, hb.frame _, fun h => by cases h⟩
end Go.Proofs.YtoaaiffbgiehpaaGreatDoor
