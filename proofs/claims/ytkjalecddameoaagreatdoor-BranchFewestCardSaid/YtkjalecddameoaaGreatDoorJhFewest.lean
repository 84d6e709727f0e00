import Derived.Test.YtkjalecddameoaaGreatDoorCards
import Derived.SevenTiedAt
set_option linter.all false
namespace Go.Proofs.YtkjalecddameoaaGreatDoor
open Go Go.Proofs
set_option maxRecDepth 100000
theorem hc_wf:Rows.branchFewestRow.wfByText (OpenSpec.ofChange Rows.branchFewestSpec)=true:=by kernel_rfl
theorem JR:Tryz.prog.mainIs=some (true,"e2cdac6cbfd65e7accb0a425eebd3ce2db0511a20d4eb8676fad3249ad37c305".toList):=by kernel_rfl
theorem JN:Tryz.prog.funcNamed "kelir/kelirlaw09.BranchFewest" = some 10:=by kernel_rfl
theorem JO:([25,63,26,3].all fun u=>!Tryz.prog.wantsStandIn u)=true:=by kernel_rfl
theorem JQ:false=Rows.branchFewestRow.goesBy Tryz.prog:=by kernel_rfl
theorem JP:true=Tryz.prog.looks []:=by kernel_rfl
end Go.Proofs.YtkjalecddameoaaGreatDoor
