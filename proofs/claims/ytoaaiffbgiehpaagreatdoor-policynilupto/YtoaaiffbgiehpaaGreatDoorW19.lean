/- PolicyNil: the row's cells are what the program forces, cell by cell (together they want more memory than one build has). -/
import Derived.Test.YtoaaiffbgiehpaaGreatDoorRows
import Derived.JoinedOf
namespace Go.Proofs.YtoaaiffbgiehpaaGreatDoor.policyNil
theorem limb0 : Rows.policyNilUptoRow.wf (OpenSpec.ofChange (Rows.OpenSpec.upto Rows.policyNilSpec).bare) = true := by kernel_rfl
theorem limb1 : laidOutB Tryz.prog = true := by kernel_rfl
theorem limb2 : mapsRowed Tryz.prog = true := by kernel_rfl
theorem limb3 : Tryz.f3.params.all (Tryz.prog.readableRec ·) = true := by kernel_rfl
theorem limb4 : namedTie Tryz.prog Rows.policyNilUptoRow.named (Rows.OpenSpec.upto Rows.policyNilSpec).bare.vars = true := by kernel_rfl
theorem limb5 : (Rows.policyNilUptoRow.stops == []) = true := by kernel_rfl
theorem limb6 : (Tryz.prog.stops == []) = true := by kernel_rfl
theorem limb7 : (Rows.policyNilUptoRow.knobs == []) = true := by kernel_rfl
theorem limb8 : (Tryz.prog.stopKnobs == []) = true := by kernel_rfl
theorem limb9 : (Rows.policyNilUptoRow.inPlace == Tryz.prog.inPlace 3) = true := by kernel_rfl
theorem limb10 : (Rows.policyNilUptoRow.unfollowed == Tryz.prog.unfollowed 3) = true := by kernel_rfl
end Go.Proofs.YtoaaiffbgiehpaaGreatDoor.policyNil
