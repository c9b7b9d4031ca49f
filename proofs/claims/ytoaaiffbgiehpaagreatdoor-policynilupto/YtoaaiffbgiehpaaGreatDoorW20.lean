/- PolicyNil: the row's other cells, and all joined. -/
import Derived.Test.YtoaaiffbgiehpaaGreatDoorW19
namespace Go.Proofs.YtoaaiffbgiehpaaGreatDoor.policyNil
theorem limb11 : (Rows.policyNilUptoRow.recurses == Tryz.prog.recurses 3) = true := by kernel_rfl
theorem limb12 : (Rows.policyNilUptoRow.named == Tryz.prog.varsNamed 3) = true := by kernel_rfl
theorem limb13 : (Rows.policyNilUptoRow.maps == (Tryz.f3.params.toList ++ (Rows.OpenSpec.upto Rows.policyNilSpec).bare.plain.varTypes Tryz.prog).any (Tryz.prog.mapsRec ·)) = true := by kernel_rfl
theorem limb14 : (Rows.policyNilUptoRow.ifaces == (Tryz.f3.params.toList ++ (Rows.OpenSpec.upto Rows.policyNilSpec).bare.plain.varTypes Tryz.prog).any (Tryz.prog.ifacesRec ·)) = true := by kernel_rfl
theorem limb15 : (Rows.policyNilUptoRow.mapsOut == Tryz.prog.mapsAmong Tryz.f3.resultTypes.toList) = true := by kernel_rfl
theorem limb16 : (Rows.policyNilUptoRow.loops == (Tryz.f3.params.toList ++ (Rows.OpenSpec.upto Rows.policyNilSpec).bare.plain.varTypes Tryz.prog).any (Tryz.prog.loopsFrom ·)) = true := by kernel_rfl
theorem limb17 : (Rows.policyNilUptoRow.wideKeys == (Tryz.f3.params.toList ++ (Rows.OpenSpec.upto Rows.policyNilSpec).bare.plain.varTypes Tryz.prog ++ Tryz.f3.resultTypes.toList).any (Tryz.prog.wideKeysFrom ·)) = true := by kernel_rfl
theorem limb18 : (Rows.OpenSpec.upto Rows.policyNilSpec).bare.vars.all (Tryz.prog.varReadable ·) = true := by kernel_rfl
theorem limb19 : Tryz.f3.resultTypes.all (fun t => Tryz.prog.readableRec t && decide (t < Tryz.prog.types.size)) = true := by kernel_rfl
theorem limb20 : (Rows.policyNilUptoRow.ifacesOut == Tryz.f3.resultTypes.toList.any (Tryz.prog.ifacesRec ·)) = true := by kernel_rfl
theorem limb21 : (Rows.policyNilUptoRow.loopsOut == Tryz.f3.resultTypes.toList.any (Tryz.prog.loopsFrom ·)) = true := by kernel_rfl
theorem limb22 : (Rows.policyNilUptoRow.plainKeys == Tryz.prog.plainKeys) = true := by kernel_rfl
theorem limb23 : Rows.policyNilUptoRow.shortTexts.isNone = true := by kernel_rfl
theorem limb24 : Tryz.prog.stopsHeard = true := by kernel_rfl
theorem limb25 : Tryz.prog.mayEnter = true := by kernel_rfl
theorem limb26 : (Rows.policyNilUptoRow.lifted == Tryz.prog.liftsFinal) = true := by kernel_rfl
theorem limb27 : (Tryz.prog.make == some Rows.policyNilUptoRow.make) = true := by kernel_rfl
theorem limb28 : (Rows.policyNilUptoRow.kinds == (if Rows.policyNilUptoRow.domain.isEmpty then [] else Tryz.f3.params.toList.map fun t => match Tryz.prog.underlying t with | some (.int k) => some k | _ => none)) = true := by kernel_rfl
theorem limb29 : (Rows.policyNilUptoRow.pinned == Rows.policyNilUptoRow.pinnedBy) = true := by kernel_rfl
theorem limb30 : (Rows.policyNilUptoRow.veiled == (Tryz.f3.params.toList ++ (Rows.OpenSpec.upto Rows.policyNilSpec).bare.plain.varTypes Tryz.prog ++ Tryz.f3.resultTypes.toList).any (Tryz.prog.veiledRec ·)) = true := by kernel_rfl
theorem limb31 : Rows.policyNilUptoRow.veiledFits Tryz.prog Tryz.f3.params.toList (Tryz.f3.params.toList ++ (Rows.OpenSpec.upto Rows.policyNilSpec).bare.plain.varTypes Tryz.prog ++ Tryz.f3.resultTypes.toList) = true := by kernel_rfl
theorem and2 {a b : Bool} (h : a = true) (k : b = true) : (a && b) = true := by rw [h, k]; rfl
set_option maxRecDepth 100000 in
theorem closed : joinedFacts Tryz.prog 3 Tryz.f3 (Rows.OpenSpec.upto Rows.policyNilSpec).bare Rows.policyNilUptoRow = true := by
  unfold joinedFacts
  exact and2 (and2 (and2 (and2 (and2 (and2 (and2 (and2 (and2 (and2 (and2 (and2 (and2 (and2 (and2 (and2 (and2 (and2 (and2 (and2 (and2 (and2 (and2 (and2 (and2 (and2 (and2 (and2 (and2 (and2 (and2 limb0 limb1) limb2) limb3) limb4) limb5) limb6) limb7) limb8) limb9) limb10) limb11) limb12) limb13) limb14) limb15) limb16) limb17) limb18) limb19) limb20) limb21) limb22) limb23) limb24) limb25) limb26) limb27) limb28) limb29) limb30) limb31
end Go.Proofs.YtoaaiffbgiehpaaGreatDoor.policyNil
