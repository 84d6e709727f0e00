import Derived.Test.YtmebonambbhehaaGreatQkkBz
set_option linter.all false
open Go.Proofs.Tryz
namespace Go.Pv
open Go Go.RowKit Go.Proofs
set_option maxRecDepth 200000
set_option maxHeartbeats 80000000
def primKb:iY:=fE (fE (fE (fE (fE (fE bf 41 (dc L76)) 147 c111) 65 (dc L87)) 67 (dc L88)) 68 (dc L89)) 69 (dc L102)
theorem jm:nt prog primKb:=aQ (aQ (aQ (aQ (aQ (aQ bu L76_ok) pK) L87_ok) L88_ok) L89_ok) L102_ok
def fitSN:PV:=.tuple [.sl .a [stg vS vN [0,1,2,3,4],stg vS vN [0,1,2,4]],ii 0]
def fitSM:PV:=.tuple [.sl .n [],ii 5]
theorem kfSN:ab prog 40 [vS,vN] [] (.ret fitSN) []:=bT jm (k:=300) (by kernel_rfl)
theorem kfSM:ab prog 40 [vS,vM] [] (.ret fitSM) []:=bT jm (k:=300) (by kernel_rfl)
def L103:List (List PV×PV):=[([vS,vN],fitSN),([vS,vM],fitSM)]
theorem L103_ok:dU prog 40 (dc L103):=conL2 (ent func40 rfl) kfSN kfSM (by kernel_rfl) (by kernel_rfl)
def primKc:iY:=fE (fE primKb 40 (dc L103)) 115 c203
theorem ic:nt prog primKc:=aQ (aQ jm L103_ok) ym
def r62:PV:=.tuple [slx [0,1,2,3,4],slx [0,1,2,4],slx [40,20,60,60],ii 0]
theorem k62:ab prog 21 [vS,vN] [] (.ret r62) []:=bT ic (k:=300) (by kernel_rfl)
end Go.Pv
