import Derived.Test.YtkjalecddameoaaGreatDoorQmCho
import Derived.Test.YtkjalecddameoaaGreatDoorSmRefC
import Derived.Test.YtkjalecddameoaaGreatDoorSoMore
set_option linter.all false
namespace Go.Pv
open Go Go.RowKit Go.Proofs
set_option maxRecDepth 200000
set_option maxHeartbeats 8000000
open Go Go.RowKit
section
variable {P:Program} {T:TypeId->TyI} {st st' st1 st2:St} {out:Out} {G:Gh} {sg:List Box} {w:World}
end
theorem fnLtK{m:Nat}{f:FuncId}{cs:List PV}(h:ad cs=true):Pv.Lt m (.fn (.func f) [] [.ip cs]):=by
 refine .fn (fun c hc=>by cases hc) fun c hc=>?_
 simp only[List.mem_cons,List.not_mem_nil,or_false]at hc;subst hc;exact(av _ (show(PV.ip cs).closed=true from h)).mono (Nat.zero_le _)
theorem Bp{m:Nat}{cs:List PV}{f:Bool}(h:ad cs=true):(Box.var cs f).Lt m:=fun c hc=>(aB _ h c hc).mono (Nat.zero_le _)
end Go.Pv
