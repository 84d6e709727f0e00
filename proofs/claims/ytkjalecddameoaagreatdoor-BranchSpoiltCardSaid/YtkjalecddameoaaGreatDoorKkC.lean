/- known(): evenings of the examples. -/
import Derived.Test.YtkjalecddameoaaGreatDoorKkB
set_option linter.all false
namespace Go.Pv
open Go Go.RowKit Go.Proofs
set_option maxRecDepth 200000
set_option maxHeartbeats 80000000
def primKb:PrimT:=addP (addP (addP (addP (addP (addP primG 76 (conL L76)) 111 c111) 87 (conL L87)) 88 (conL L88)) 89 (conL L89)) 102 (conL L102)
theorem primKb_ok:PrimOk Tryz.prog primKb:=addP_ok (addP_ok (addP_ok (addP_ok (addP_ok (addP_ok primG_ok L76_ok) c111_ok) L87_ok) L88_ok) L89_ok) L102_ok
def fitSN:PV:=.tuple [.sl .a [stg vS vN [0,1,2,3,4],stg vS vN [0,1,2,4]],ii 0]
def fitSM:PV:=.tuple [.sl .n [],ii 5]
theorem kfSN:CallOk Tryz.prog 103 [vS,vN] [] (.ret fitSN) []:=pcall primKb_ok (k:=300) (by kernel_rfl)
theorem kfSM:CallOk Tryz.prog 103 [vS,vM] [] (.ret fitSM) []:=pcall primKb_ok (k:=300) (by kernel_rfl)
def L103:List (List PV × PV):=[([vS,vN],fitSN),([vS,vM],fitSM)]
theorem L103_ok:ConOk Tryz.prog 103 (conL L103):=conL2 (ent Tryz.func103 rfl) kfSN kfSM (by kernel_rfl) (by kernel_rfl)
def r44:PV:=.tuple [slx [4,4,1,3,3,1],ii 0]
theorem k44:CallOk Tryz.prog 44 [tT,vN] [] (.ret r44) []:=pcall primKb_ok (k:=300) (by kernel_rfl)
def primKc:PrimT:=addP (addP primKb 103 (conL L103)) 203 c203
theorem primKc_ok:PrimOk Tryz.prog primKc:=addP_ok (addP_ok primKb_ok L103_ok) c203_ok
def r62:PV:=.tuple [slx [0,1,2,3,4],slx [0,1,2,4],slx [40,20,60,60],ii 0]
def r62m:PV:=.tuple [.sl .n [],.sl .n [],.sl .n [],ii 5]
theorem k62:CallOk Tryz.prog 62 [vS,vN] [] (.ret r62) []:=pcall primKc_ok (k:=300) (by kernel_rfl)
theorem k62m:CallOk Tryz.prog 62 [vS,vM] [] (.ret r62m) []:=pcall primKc_ok (k:=300) (by kernel_rfl)
def r45:PV:=.tuple [slx [3,3,3,2,3],ii 0]
theorem k45:CallOk Tryz.prog 45 [vS,vN] [] (.ret r45) []:=pcall primKc_ok (k:=300) (by kernel_rfl)
def r105:PV:=.tuple [.sl .a [slx [0,1,3],slx [0,1,4]],ii 0]
theorem k105:CallOk Tryz.prog 105 [vS,vN] [] (.ret r105) []:=pcall primKc_ok (k:=300) (by kernel_rfl)
def L105:List (List PV × PV):=[([vS,vN],r105)]
theorem L105_ok:ConOk Tryz.prog 105 (conL L105):=conL1 (ent Tryz.func105 rfl) k105 (by kernel_rfl)
def primKd:PrimT:=addP primKc 105 (conL L105)
theorem primKd_ok:PrimOk Tryz.prog primKd:=addP_ok primKc_ok L105_ok
def r50:PV:=.tuple [slx [0,1,3],ii 0]
theorem k50:CallOk Tryz.prog 50 [vS,vN] [] (.ret r50) []:=pcall primKd_ok (k:=300) (by kernel_rfl)
def r51:PV:=.tuple [slx [0,1],ii 0]
theorem k51:CallOk Tryz.prog 51 [vS,vN] [] (.ret r51) []:=pcall primKd_ok (k:=300) (by kernel_rfl)
end Go.Pv
