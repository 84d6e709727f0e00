import Derived.Test.YtkjalecddameoaaGreatDoorKkB
set_option linter.all false
open Go.Proofs.Tryz
namespace Go.Pv
open Go Go.RowKit Go.Proofs
set_option maxRecDepth 200000
set_option maxHeartbeats 80000000
def primKb:iY:=fE (fE (fE (fE (fE (fE bf 76 (dc L76)) 111 yh) 87 (dc L87)) 88 (dc L88)) 89 (dc L89)) 102 (dc L102)
theorem jm:cV prog primKb:=aQ (aQ (aQ (aQ (aQ (aQ bu L76_ok) pK) L87_ok) L88_ok) L89_ok) L102_ok
def fitSN:PV:=.tuple [.sl .a [stg vS vN [0,1,2,3,4],stg vS vN [0,1,2,4]],ii 0]
def fitSM:PV:=.tuple [.sl .n [],ii 5]
theorem kfSN:ab prog 103 [vS,vN] [] (.ret fitSN) []:=bT jm (k:=300) (by kernel_rfl)
theorem kfSM:ab prog 103 [vS,vM] [] (.ret fitSM) []:=bT jm (k:=300) (by kernel_rfl)
def L103:List (List PV×PV):=[([vS,vN],fitSN),([vS,vM],fitSM)]
theorem L103_ok:al prog 103 (dc L103):=Ap (ent func103 rfl) kfSN kfSM (by kernel_rfl) (by kernel_rfl)
def r44:PV:=.tuple [slx [4,4,1,3,3,1],ii 0]
theorem k44:ab prog 44 [tT,vN] [] (.ret r44) []:=bT jm (k:=300) (by kernel_rfl)
def primKc:iY:=fE (fE primKb 103 (dc L103)) 203 c203
theorem ic:cV prog primKc:=aQ (aQ jm L103_ok) ym
def r62:PV:=.tuple [slx [0,1,2,3,4],slx [0,1,2,4],slx [40,20,60,60],ii 0]
def r62m:PV:=.tuple [.sl .n [],.sl .n [],.sl .n [],ii 5]
theorem k62:ab prog 62 [vS,vN] [] (.ret r62) []:=bT ic (k:=300) (by kernel_rfl)
theorem k62m:ab prog 62 [vS,vM] [] (.ret r62m) []:=bT ic (k:=300) (by kernel_rfl)
def r45:PV:=.tuple [slx [3,3,3,2,3],ii 0]
theorem k45:ab prog 45 [vS,vN] [] (.ret r45) []:=bT ic (k:=300) (by kernel_rfl)
def r105:PV:=.tuple [.sl .a [slx [0,1,3],slx [0,1,4]],ii 0]
theorem k105:ab prog 105 [vS,vN] [] (.ret r105) []:=bT ic (k:=300) (by kernel_rfl)
def L105:List (List PV×PV):=[([vS,vN],r105)]
theorem L105_ok:al prog 105 (dc L105):=gO (ent func105 rfl) k105 (by kernel_rfl)
def primKd:iY:=fE primKc 105 (dc L105)
theorem qn:cV prog primKd:=aQ ic L105_ok
def r50:PV:=.tuple [slx [0,1,3],ii 0]
theorem k50:ab prog 50 [vS,vN] [] (.ret r50) []:=bT qn (k:=300) (by kernel_rfl)
def r51:PV:=.tuple [slx [0,1],ii 0]
theorem k51:ab prog 51 [vS,vN] [] (.ret r51) []:=bT qn (k:=300) (by kernel_rfl)
end Go.Pv
