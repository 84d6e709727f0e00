/- The closed facts of the card of JointReads. -/
import Derived.Test.YtmnocohggpmjcaaGreatDoorCards
import Derived.SevenTiedAt
set_option linter.all false
namespace Go.Proofs.YtmnocohggpmjcaaGreatDoor
open Go Go.Proofs
set_option maxRecDepth 100000
theorem hc_wf : Rows.jointReadsRow.wfByText (OpenSpec.ofChange Rows.jointReadsSpec) = true := by kernel_rfl
theorem hc_main : Tryz.prog.mainIs = some (true, "2ab4f9e966ac3c75ece0de67bdd08bc36af31b5c9c04f15a943881bce790f99b".toList) := by kernel_rfl
theorem hc_named : Tryz.prog.funcNamed "kelir/kelirlaw02.JointReads" = some 23 := by kernel_rfl
theorem hc_stand : ([9].all fun u => !Tryz.prog.wantsStandIn u) = true := by kernel_rfl
theorem hc_goes : false = Rows.jointReadsRow.goesBy Tryz.prog := by kernel_rfl
theorem hc_looks : true = Tryz.prog.looks [] := by kernel_rfl
end Go.Proofs.YtmnocohggpmjcaaGreatDoor
