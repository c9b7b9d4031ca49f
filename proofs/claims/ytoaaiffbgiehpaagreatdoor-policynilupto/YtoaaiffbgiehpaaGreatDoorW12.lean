/- Scan of a text of one letter: one token. -/
import Derived.Test.YtoaaiffbgiehpaaGreatDoorW11
import Derived.Deep.AppendLies
namespace Go.Proofs.YtoaaiffbgiehpaaGreatDoor
open Go.RowKit Go.Shelf
attribute [local go_sem] Oper.semAt_some run_store_float
theorem info240 : (Tryz.prog.info? 240).map (fun i => (i.zero, i.size, i.bytes)) = some (some (.agg #[.int .i64 0, .string ⟨#[]⟩, .int .i64 0, .float .f64 0, .int .i64 0, .int .i64 0]), 6, 56) := by kernel_rfl
set_option maxHeartbeats 400000 in
theorem each_any (sb n cp : Nat) (w : World) : Calls Tryz.prog 134 #[.slice (some ⟨sb, 0, none⟩) n cp] w fun e w' => e = .returned (.func (.func 171) #[] #[.pointer (some ⟨w.heap.size, 0, none⟩)]) ∧ w' = w.alloc (.cells #[.slice (some ⟨sb, 0, none⟩) n cp] 238) := by
  go_enter Tryz.func134, Tryz.ntmps134
  go_wp2
  go_ret
  exact ⟨rfl, rfl⟩

/-- The cells of the token. -/
def tokCells (s : ByteArray) : List Value := [.int .i64 1, .string s, .int .i64 0, .float .f64 0, .int .i64 0, .int .i64 1]
/-- What Scan says of the letter's block. -/
def LetterAt (sb : Nat) (b : Int) (W : World) : Prop := W.cell? ⟨sb, 0, none⟩ = some (.int .u8 b) ∧ sb < W.heap.size

def ScanPost (w : World) (e : Ending) (w' : World) : Prop :=
  ∃ g cap, e = .returned (.tuple #[.slice (some ⟨g, 0, none⟩) 1 cap, .int .i64 0, .int .i64 0]) ∧ w'.cell? ⟨g, 0, none⟩ = some (.int .i64 1) ∧ w'.cell? ⟨g, 5, none⟩ = some (.int .i64 1) ∧ g < w'.heap.size ∧ w.heap.size ≤ g ∧ Below w.heap.size w w'

set_option maxRecDepth 100000 in
set_option maxHeartbeats 2000000 in
theorem scan_any (s : ByteArray) (b : Int) (sb cp : Nat)
    (hN0 : ∀ W, LetterAt sb b W → Calls Tryz.prog 172 #[.slice (some ⟨sb, 0, none⟩) 1 cp, .int .i64 0] W fun e w' => e = .returned (.tuple #[.agg #[.int .i64 1, .string s, .int .i64 0, .float .f64 0, .int .i64 0, .int .i64 1], .bool true, .int .i64 0]) ∧ Below W.heap.size W w')
    (w : World) (hl : LetterAt sb b w) :
    Calls Tryz.prog 87 #[.slice (some ⟨sb, 0, none⟩) 1 cp] w (ScanPost w) := by
  obtain ⟨i0, hi0, hz0, hz1, hz2⟩ := info_parts info240
  refine (callsIn_wide (n := 5)).1 ?_
  refine callsIn_of_wp_marks Tryz.func87 rfl trivial ?_ rfl
  simp only [Tryz.ntmps87, List.size_toArray, List.length_cons, List.length_nil, Nat.reduceAdd, Nat.reduceSub, Array.replicate_succ, Array.replicate_zero, List.push_toArray, List.append_toArray, List.nil_append, List.cons_append]
  gi_wp2_with (refine ⟨trivial, ?_⟩; gi_at_call 134; refine (callsIn_wide.2 (each_any _ _ _ _)).mono ?_; rintro e w' ⟨rfl, rfl⟩)
  obtain ⟨n0, hn0⟩ : ∃ n0, w.heap.size = n0 := ⟨_, rfl⟩
  have k0 := Boxed.new w 235 (.slice none 0 0)
  have k1 := Boxed.new (w.alloc (.cells #[.slice none 0 0] 235)) 3 (.int .i64 0)
  have k2 := Boxed.new ((w.alloc (.cells #[.slice none 0 0] 235)).alloc (.cells #[.int .i64 0] 3)) 32 (.int .i64 0)
  have k3 := Boxed.new (((w.alloc (.cells #[.slice none 0 0] 235)).alloc (.cells #[.int .i64 0] 3)).alloc (.cells #[.int .i64 0] 32)) 235 (.slice none 0 0)
  have k4 := Boxed.new ((((w.alloc (.cells #[.slice none 0 0] 235)).alloc (.cells #[.int .i64 0] 3)).alloc (.cells #[.int .i64 0] 32)).alloc (.cells #[.slice none 0 0] 235)) 238 (.slice (some ⟨sb, 0, none⟩) 1 cp)
  have j0 := (((k0.alloc (.cells #[.int .i64 0] 3)).alloc (.cells #[.int .i64 0] 32)).alloc (.cells #[.slice none 0 0] 235)).alloc (.cells #[.slice (some ⟨sb, 0, none⟩) 1 cp] 238)
  have j1 := ((k1.alloc (.cells #[.int .i64 0] 32)).alloc (.cells #[.slice none 0 0] 235)).alloc (.cells #[.slice (some ⟨sb, 0, none⟩) 1 cp] 238)
  have j2 := (k2.alloc (.cells #[.slice none 0 0] 235)).alloc (.cells #[.slice (some ⟨sb, 0, none⟩) 1 cp] 238)
  have j3 := k3.alloc (.cells #[.slice (some ⟨sb, 0, none⟩) 1 cp] 238)
  have hB0 : Below w.heap.size w (((((w.alloc (.cells #[.slice none 0 0] 235)).alloc (.cells #[.int .i64 0] 3)).alloc (.cells #[.int .i64 0] 32)).alloc (.cells #[.slice none 0 0] 235)).alloc (.cells #[.slice (some ⟨sb, 0, none⟩) 1 cp] 238)) :=
    (((((Below.refl _ w).alloc (Nat.le_refl _) _).alloc (by simp) _).alloc (by simp; omega) _).alloc (by simp; omega) _).alloc (by simp; omega) _
  have hsz : (((((w.alloc (.cells #[.slice none 0 0] 235)).alloc (.cells #[.int .i64 0] 3)).alloc (.cells #[.int .i64 0] 32)).alloc (.cells #[.slice none 0 0] 235)).alloc (.cells #[.slice (some ⟨sb, 0, none⟩) 1 cp] 238)).heap.size = w.heap.size + 5 := by simp
  simp only [World.size_alloc] at j1 j2 j3 k4
  clear k0 k1 k2 k3
  rw [hn0] at hB0 hsz j0 j1 j2 j3 k4 ⊢
  generalize ((((w.alloc (.cells #[.slice none 0 0] 235)).alloc (.cells #[.int .i64 0] 3)).alloc (.cells #[.int .i64 0] 32)).alloc (.cells #[.slice none 0 0] 235)).alloc (.cells #[.slice (some ⟨sb, 0, none⟩) 1 cp] 238) = W0 at *
  have hlb : ∀ W, Below n0 w W → LetterAt sb b W := fun W hB => ⟨(hB.cell (p := ⟨sb, 0, none⟩) (by have := hl.2; simp; omega)).trans hl.1, by have := hl.2; have := hB.size; omega⟩
  refine wpIn_rangeFunc_ownH (α := Unit) rfl (by omega) (gf := 171) (lb := #[.pointer (some ⟨n0 + 1 + 1 + 1 + 1, 0, none⟩)]) rfl trivial (enters_of Tryz.func171 (by kernel_rfl) rfl)
    (encs := fun _ => #[.agg #[.int .i64 1, .string s, .int .i64 0, .float .f64 0, .int .i64 0, .int .i64 1], .int .i64 0]) (Kp := KeepC (n0 + 1 + 1 + 1)) (S := fun ys => ys = [()]) (Sp := fun pre => pre <+: [()]) (N := 1) (w0 := W0)
    (fun l J Jx W hW hJ _ hY h0 => each_in Fence.wide 4 trivial trivial rfl (by omega) s l (n0 + 1 + 1 + 1 + 1) sb cp (n0 + 1 + 1 + 1) (LetterAt sb b) (fun W hW => callsIn_wide.2 (hN0 W hW)) (fun W => callsIn_wide.2 (next_end sb cp W)) J Jx W hJ hY
      (hlb W (hB0.trans (hW.mono (by omega)))) (by omega) (by have := hW.size; omega) ((hW.block _ (by omega)).trans k4) h0)
    keepC_t (keepC_b (w := W0)) (Below.refl _ _) (fun _ => rfl)
    (fun pre W => ((∃ v, Boxed W (n0 + 1 + 1 + 1) 235 v ∧ W.ownsRow n0 240 6 v pre.length (pre.flatMap fun _ => tokCells s) ∧ (pre = [] → v = .slice none 0 0)) ∧ (Boxed W n0 235 (.slice none 0 0) ∧ Boxed W (n0 + 1) 3 (.int .i64 0) ∧ Boxed W (n0 + 1 + 1) 32 (.int .i64 0))) ∧ Below n0 w W)
    (fun _ _ _ => False)
    (OwnFrom.and (OwnFrom.and (Own.from (holdsRow_own n0 (n0 + 1 + 1 + 1) 235 240 6 (fun pre : List Unit => pre.length) (fun pre => pre.flatMap fun _ => tokCells s) (fun pre v => pre = [] → v = .slice none 0 0)) _) (OwnFrom.and (Own.from (boxed_own n0 235 fun _ => .slice none 0 0) _) (OwnFrom.and (Own.from (boxed_own (n0 + 1) 3 fun _ => .int .i64 0) _) (Own.from (boxed_own (n0 + 1 + 1) 32 fun _ => .int .i64 0) _)))) (ownFrom_below (by omega) (by omega)))
    (fun _ _ _ _ _ hs _ _ => hs)
    ⟨⟨⟨_, j3, World.ownsRow_nil _ _ _ _, fun _ => rfl⟩, j0, j1, j2⟩, hB0⟩
    (fun _ a' W => ∃ Bx, n0 + 1 + 1 + 1 < Bx ∧ W.heap[Bx]? = some (.cells #[.int .i64 1, .string s, .int .i64 0, .float .f64 0, .int .i64 0, .int .i64 1] 240 (0, 0)) ∧ a' = { tmps := #[.slice (some ⟨sb, 0, none⟩) 1 cp, undef, .pointer (some ⟨n0, 0, none⟩), .pointer (some ⟨n0 + 1, 0, none⟩), .pointer (some ⟨n0 + 1 + 1, 0, none⟩), .pointer (some ⟨n0 + 1 + 1 + 1, 0, none⟩), .pointer (some ⟨Bx, 0, none⟩), .int .i64 0, .slice (some ⟨sb, 0, none⟩) 1 cp, .func (.func 171) #[] #[.pointer (some ⟨n0 + 1 + 1 + 1 + 1, 0, none⟩)],
      .agg #[.int .i64 1, .string s, .int .i64 0, .float .f64 0, .int .i64 0, .int .i64 1], .int .i64 0, undef, undef, undef, undef, undef, undef, undef, undef, undef, undef], defers := [] })
    (fun _ a' _ X Y row hs hg hr => by
      obtain ⟨Bx, h1, h2, h3⟩ := hs
      exact ⟨Bx, h1, (hg.block Bx (Array.getElem?_eq_some_iff.1 h2).1 (fun e => by obtain ⟨_, o, ho, hc⟩ := hr Bx e.symm; rw [h2] at ho; cases ho; cases hc)).trans h2, h3⟩)
    ?assign ?body ?done ?stop
  case assign =>
    rintro l pre x W K ⟨⟨hv, b0, b1, b2⟩, hB⟩ hK
    obtain ⟨v, hv, hrow, hnil⟩ := hv
    have HB := Lib.hid hB
    have hz := hB.size
    have hnW : n0 + 1 + 1 + 1 < W.heap.size := hv.lt
    clear hB
    gi_wp2
    exact hK _ _ ((KeepsOthers.alloc _ _).from _) ⟨by simp, fun k cs t fz _ hk => (Below.heap_alloc W _ k (Array.getElem?_eq_some_iff.1 hk).1).trans hk⟩
      ⟨⟨⟨v, hv.alloc _, hrow.alloc _, hnil⟩, b0.alloc _, b1.alloc _, b2.alloc _⟩, HB.out.alloc (by omega) _⟩ ⟨W.heap.size, hnW, World.alloc_heap_new _ _, rfl⟩
  case body =>
    rintro l pre x a' W hl ⟨r, hr⟩ ⟨⟨⟨v, hv, hrow, hnil⟩, b0, b1, b2⟩, hB⟩ ⟨Bx, hBx, bX, rfl⟩ hlt
    obtain rfl : pre = [] := by
      cases pre with
      | nil => rfl
      | cons a t => simp at hlt
    obtain rfl := hnil rfl
    have hc := hv.cell
    have hf := hv.frozen
    have x0 : W.cell? ⟨Bx, 0, none⟩ = some (.int .i64 1) := by simp [World.cell?, bX]
    have x1 : W.cell? ⟨Bx, 1, none⟩ = some (.string s) := by simp [World.cell?, bX]
    have x2 : W.cell? ⟨Bx, 2, none⟩ = some (.int .i64 0) := by simp [World.cell?, bX]
    have x3 : W.cell? ⟨Bx, 3, none⟩ = some (.float .f64 0) := by simp [World.cell?, bX]
    have x4 : W.cell? ⟨Bx, 4, none⟩ = some (.int .i64 0) := by simp [World.cell?, bX]
    have x5 : W.cell? ⟨Bx, 5, none⟩ = some (.int .i64 1) := by simp [World.cell?, bX]
    have hz := hB.size
    have HB := Lib.hid hB
    have HV := Lib.hid hv
    have HR := Lib.hid hrow
    have HX := Lib.hid bX
    have H0 := Lib.hid b0
    have H1 := Lib.hid b1
    have H2 := Lib.hid b2
    clear hB hv hrow bX b0 b1 b2 hr j0 j1 j2 j3 k4 hB0 hnil
    gi_wp2_with (gi_at_builtin; refine wpListIn_append_own _ rfl _ _ 235 rfl n0 240 i0 _ 6 56 Tryz.underlying235 hi0 hz0 hz1 hz2 rfl (by decide) _ _ _ rfl (HR.out.alloc _) ⟨W.heap.size, 0, none⟩ 1 1 (tokCells s) rfl rfl ?c1 ?c2 ?c3 ?c4 ?c5 ?_)
    case c1 => exact World.news_of_block (cs := #[.int .i64 1, .string s, .int .i64 0, .float .f64 0, .int .i64 0, .int .i64 1]) (t := 240) (fr := (0, 0)) (heap_alloc_new W _)
    case c2 => simp [tokCells, Value.oneCell']
    case c3 => simp [maxLen]
    case c4 => simp
    case c5 => simp; omega
    intro v' w1 hown' hgrow _
    obtain ⟨g', cap', rfl⟩ := ownsRow_succ (k := 0) hown'
    obtain ⟨hv1, hv2, hr2, hk2, hb2⟩ := HV.out.appended (by decide) HR.out (by omega) (by omega) hown' hgrow
    have hc1 := hv1.cell
    have hf1 := hv1.frozen
    have hkeep : ∀ k, k < W.heap.size → k ≠ n0 + 1 + 1 + 1 → (w1.setCell ⟨n0 + 1 + 1 + 1, 0, none⟩ (.slice (some ⟨g', 0, none⟩) 1 cap')).heap[k]? = W.heap[k]? := fun k hk hne =>
      (Below.heap_setCell _ _ _ _ (by simpa using hne)).trans ((hgrow.block k (by simp; omega) (by simp [Value.ownBlock])).trans (Below.heap_alloc _ _ _ hk))
    have hsz1 : W.heap.size ≤ (w1.setCell ⟨n0 + 1 + 1 + 1, 0, none⟩ (.slice (some ⟨g', 0, none⟩) 1 cap')).heap.size := hb2.size
    have HKeep := Lib.hid hkeep
    have HV2 := Lib.hid hv2
    have HR2 := Lib.hid hr2
    have HK2 := Lib.hid hk2
    have HB2 := Lib.hid hb2
    clear hkeep hv2 hr2 hk2 hb2 hgrow hown' hv1
    gi_wp2
    have q : ∀ k, k < n0 + 1 + 1 + 1 → k < W.heap.size := fun k hk => by have := HV.out.lt; omega
    exact ⟨HK2.out.from _, ⟨hsz1, fun k cs t fz hne hk => (HKeep.out k (Array.getElem?_eq_some_iff.1 hk).1 hne).trans hk⟩,
      ⟨⟨⟨_, HV2.out, HR2.out, fun h => by simp at h⟩, (HKeep.out _ (q _ (by omega)) (by omega)).trans H0.out, (HKeep.out _ (q _ (by omega)) (by omega)).trans H1.out, (HKeep.out _ (q _ (by omega)) (by omega)).trans H2.out⟩, HB.out.trans HB2.out⟩⟩
  case done =>
    rintro D ys W hD rfl ⟨⟨⟨v, hv, hrow, _⟩, b0, b1, b2⟩, hB⟩ hK
    obtain ⟨g, cap, rfl⟩ := ownsRow_succ (k := 0) hrow
    have hc := hv.cell
    have c0 := b0.cell
    have c1 := b1.cell
    have c2 := b2.cell
    have f0 := b0.frozen
    have f1 := b1.frozen
    have f2 := b2.frozen
    have HV := Lib.hid hv
    have HR := Lib.hid hrow
    have HB := Lib.hid hB
    have H0 := Lib.hid b0
    have H1 := Lib.hid b1
    have H2 := Lib.hid b2
    have HKD := Lib.hid hK
    clear hv hrow hB b0 b1 b2 hK j0 j1 j2 j3 k4 hB0
    gi_wp2
    have hne : ∀ i j : Nat, i ≠ j → (⟨i, 0, none⟩ : Addr) ≠ ⟨j, 0, none⟩ := fun i j hij e => hij (by injection e)
    have r2 := World.cell?_setCell_same' ((W.setCell ⟨n0, 0, none⟩ (.slice (some ⟨g, 0, none⟩) 1 cap)).setCell ⟨n0 + 1, 0, none⟩ (.int .i64 0)) ⟨n0 + 1 + 1, 0, none⟩ (.int .i64 0) (by
      rw [World.cell?_setCell_other _ _ _ _ (hne _ _ (by omega)), World.cell?_setCell_other _ _ _ _ (hne _ _ (by omega)), c2]; rfl)
    have r1 := World.cell?_setCell_same' (W.setCell ⟨n0, 0, none⟩ (.slice (some ⟨g, 0, none⟩) 1 cap)) ⟨n0 + 1, 0, none⟩ (.int .i64 0) (by
      rw [World.cell?_setCell_other _ _ _ _ (hne _ _ (by omega)), c1]; rfl)
    have r0 := World.cell?_setCell_same' W ⟨n0, 0, none⟩ (.slice (some ⟨g, 0, none⟩) 1 cap) (by rw [c0]; rfl)
    rw [← World.cell?_setCell_other _ ⟨n0 + 1 + 1, 0, none⟩ _ (.int .i64 0) (hne _ _ (by omega))] at r1
    rw [← World.cell?_setCell_other _ ⟨n0 + 1, 0, none⟩ _ (.int .i64 0) (hne _ _ (by omega)), ← World.cell?_setCell_other _ ⟨n0 + 1 + 1, 0, none⟩ _ (.int .i64 0) (hne _ _ (by omega))] at r0
    have hK5 := (((KeepsOthers.setCell W ⟨n0, 0, none⟩ (.slice (some ⟨g, 0, none⟩) 1 cap)).trans (KeepsOthers.setCell _ ⟨n0 + 1, 0, none⟩ (.int .i64 0))).trans (KeepsOthers.setCell _ ⟨n0 + 1 + 1, 0, none⟩ (.int .i64 0))).same D _ HKD.out rfl
    have hg : n0 ≤ g ∧ g < W.heap.size ∧ g ≠ n0 ∧ g ≠ n0 + 1 ∧ g ≠ n0 + 1 + 1 ∧ W.cell? ⟨g, 0, none⟩ = some (.int .i64 1) ∧ W.cell? ⟨g, 5, none⟩ = some (.int .i64 1) := by
      obtain ⟨-, (⟨h, -⟩ | ⟨g1, cap1, cur, hv', hbase, hgb, -, -, -, htk⟩)⟩ := HR.out
      · cases h
      · obtain rfl : g = g1 := by simpa [Value.ownBlock] using congrArg Value.ownBlock hv'
        have hcur : ∀ i (hi : i < 6), cur[i]? = (tokCells s)[i]? := fun i hi => by
          have h6 : (cur.toList.take 6)[i]? = (tokCells s)[i]? := by
            have h7 : cur.toList.take 6 = tokCells s := by simpa using htk
            rw [h7]
          rw [List.getElem?_take_of_lt hi] at h6
          rw [← h6, Array.getElem?_toList]
        refine ⟨hbase, (Array.getElem?_eq_some_iff.1 hgb).1, ?_, ?_, ?_, ?_, ?_⟩
        · intro e; subst e; have h := H0.out.symm.trans hgb; simp at h
        · intro e; subst e; have h := H1.out.symm.trans hgb; simp at h
        · intro e; subst e; have h := H2.out.symm.trans hgb; simp at h
        · simp [World.cell?, hgb, hcur 0 (by omega), tokCells]
        · simp [World.cell?, hgb, hcur 5 (by omega), tokCells]
    obtain ⟨hg0, hg1, hg2, hg3, hg4, hg5, hg6⟩ := hg
    have hBz := (((HB.out.setCell (p := ⟨n0, 0, none⟩) (Nat.le_refl _) (.slice (some ⟨g, 0, none⟩) 1 cap)).setCell (p := ⟨n0 + 1, 0, none⟩) (by simp) (.int .i64 0)).setCell (p := ⟨n0 + 1 + 1, 0, none⟩) (by simp; omega) (.int .i64 0))
    have hsz5 : (((W.setCell ⟨n0, 0, none⟩ (.slice (some ⟨g, 0, none⟩) 1 cap)).setCell ⟨n0 + 1, 0, none⟩ (.int .i64 0)).setCell ⟨n0 + 1 + 1, 0, none⟩ (.int .i64 0)).heap.size = W.heap.size := by simp
    have hgc : (((W.setCell ⟨n0, 0, none⟩ (.slice (some ⟨g, 0, none⟩) 1 cap)).setCell ⟨n0 + 1, 0, none⟩ (.int .i64 0)).setCell ⟨n0 + 1 + 1, 0, none⟩ (.int .i64 0)).heap[g]? = W.heap[g]? :=
      (Below.heap_setCell _ _ _ _ (by simpa using hg4)).trans ((Below.heap_setCell _ _ _ _ (by simpa using hg3)).trans (Below.heap_setCell _ _ _ _ (by simpa using hg2)))
    generalize ((W.setCell ⟨n0, 0, none⟩ (.slice (some ⟨g, 0, none⟩) 1 cap)).setCell ⟨n0 + 1, 0, none⟩ (.int .i64 0)).setCell ⟨n0 + 1 + 1, 0, none⟩ (.int .i64 0) = W5 at *
    refine ⟨by simp, .inl ⟨_, _, rfl, run_takeDeferred hK5, ?_⟩⟩
    have hp : ∀ k, k ≠ D → (W5.putObj D (.deferred none)).heap[k]? = W5.heap[k]? := fun k hk => World.putObj_heap_other hk
    have t0 := (World.cell?_of_block (a := ⟨n0, 0, none⟩) (hp n0 (by omega))).trans r0
    have t1 := (World.cell?_of_block (a := ⟨n0 + 1, 0, none⟩) (hp (n0 + 1) (by omega))).trans r1
    have t2 := (World.cell?_of_block (a := ⟨n0 + 1 + 1, 0, none⟩) (hp (n0 + 1 + 1) (by omega))).trans r2
    refine ⟨.tuple #[.slice (some ⟨g, 0, none⟩) 1 cap, .int .i64 0, .int .i64 0], by simp [results, Tryz.results87, go_sem, t0, t1, t2], g, cap, rfl, ?_⟩
    have hgD : g ≠ D := fun e => by subst e; simp [World.cell?, show W.heap[g]? = _ from HKD.out] at hg5
    have hgf : ∀ i, (W5.putObj D (.deferred none)).cell? ⟨g, i, none⟩ = W.cell? ⟨g, i, none⟩ := fun i => (World.cell?_of_block (w := W) (a := ⟨g, i, none⟩) ((hp g hgD).trans hgc))
    refine ⟨(hgf 0).trans hg5, (hgf 5).trans hg6, by simp [World.putObj]; omega, by omega, ?_⟩
    rw [hn0]
    exact hBz.trans (belowK_b (w := W0) (by omega) W5 D _ _ (by omega) hK5 rfl rfl)
  case stop =>
    rintro D c pre W _ _ h _
    exact h.elim
end Go.Proofs.YtoaaiffbgiehpaaGreatDoor
