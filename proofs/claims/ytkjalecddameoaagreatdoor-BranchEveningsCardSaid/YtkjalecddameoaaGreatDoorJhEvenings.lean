import Derived.Test.YtkjalecddameoaaGreatDoorCards
import Derived.SevenTiedAt
set_option linter.all false
namespace Go.Proofs.YtkjalecddameoaaGreatDoor
open Go Go.Proofs
set_option maxRecDepth 100000
theorem hc_wf:Rows.branchEveningsRow.wfByText (OpenSpec.ofChange Rows.branchEveningsSpec)=true:=by kernel_rfl
theorem hc_main:Tryz.prog.mainIs=some (true,"e2cdac6cbfd65e7accb0a425eebd3ce2db0511a20d4eb8676fad3249ad37c305".toList):=by kernel_rfl
theorem hc_named:Tryz.prog.funcNamed "kelir/kelirlaw09.BranchEvenings" = some 17:=by kernel_rfl
theorem hc_stand:([25,63].all fun u=>!Tryz.prog.wantsStandIn u)=true:=by kernel_rfl
theorem hc_goes:false=Rows.branchEveningsRow.goesBy Tryz.prog:=by kernel_rfl
theorem hc_looks:true=Tryz.prog.looks []:=by kernel_rfl
end Go.Proofs.YtkjalecddameoaaGreatDoor
