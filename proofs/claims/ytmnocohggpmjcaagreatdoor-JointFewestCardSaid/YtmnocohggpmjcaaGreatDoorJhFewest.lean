/- The closed facts of the card of JointFewest. -/
import Derived.Test.YtmnocohggpmjcaaGreatDoorCards
import Derived.SevenTiedAt
set_option linter.all false
namespace Go.Proofs.YtmnocohggpmjcaaGreatDoor
open Go Go.Proofs
set_option maxRecDepth 100000
theorem hc_wf : Rows.jointFewestRow.wfByText (OpenSpec.ofChange Rows.jointFewestSpec) = true := by kernel_rfl
theorem hc_main : Tryz.prog.mainIs = some (true, "2ab4f9e966ac3c75ece0de67bdd08bc36af31b5c9c04f15a943881bce790f99b".toList) := by kernel_rfl
theorem hc_named : Tryz.prog.funcNamed "kelir/kelirlaw02.JointFewest" = some 14 := by kernel_rfl
theorem hc_stand : ([24, 60, 92, 25].all fun u => !Tryz.prog.wantsStandIn u) = true := by kernel_rfl
theorem hc_goes : false = Rows.jointFewestRow.goesBy Tryz.prog := by kernel_rfl
theorem hc_looks : true = Tryz.prog.looks [] := by kernel_rfl
end Go.Proofs.YtmnocohggpmjcaaGreatDoor
