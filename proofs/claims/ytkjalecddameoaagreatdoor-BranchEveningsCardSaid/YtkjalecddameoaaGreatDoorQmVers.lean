import Derived.Test.YtkjalecddameoaaGreatDoorQmJudge
import Derived.Test.YtkjalecddameoaaGreatDoorQiRef
set_option linter.all false
namespace Go.Pv
open Go Go.RowKit Go.Proofs
set_option maxRecDepth 200000
set_option maxHeartbeats 8000000
def cfX9:CallF:=aE (aE cf0 31 c31) 104 c104
theorem fq:CallFOk Tryz.prog cfX9:=ah (ah aa CF) c104_ok
def BJ:CallF:=aE (aE (aE (aE (aE cf0 87 c87) 88 c88) 89 c89) 101 c101) 102 c102
theorem cC:CallFOk Tryz.prog BJ:=ah (ah (ah (ah (ah aa qE) qG) va) c101_ok) c102_ok
end Go.Pv
