import Derived.Test.YtkjalecddameoaaGreatDoorKkA
import Derived.Test.YtkjalecddameoaaGreatDoorQhSo
import Derived.Test.YtkjalecddameoaaGreatDoorQiRef
set_option linter.all false
open Go.Proofs.Tryz
namespace Go.Pv
open Go Go.RowKit Go.Proofs
set_option maxRecDepth 200000
set_option maxHeartbeats 80000000
def fx(l:List Int):PV:=.sl .f (l.map ii)
def r23:PV:=.tuple [vPl,ii 0]
theorem k23:ab prog 23 [vS] [] (.ret r23) []:=al.at c23_ok (by kernel_rfl)
def r24:PV:=.tuple [ii 1,ii 0]
theorem k24:ab prog 24 [vS,fx [0,2,4]] [] (.ret r24) []:=al.at c24_ok (by kernel_rfl)
def r25:PV:=.tuple [slx [0,1,3],ii 0]
theorem k25:ab prog 25 [vS,fx [0,1,2,4]] [] (.ret r25) []:=al.at c25_ok (by kernel_rfl)
def r26:PV:=.tuple [slx [3,2,2,2,3],ii 0]
theorem k26:ab prog 26 [vS] [] (.ret r26) []:=al.at c26_ok (by kernel_rfl)
def primKe:iY:=fE (fE (fE (fE (fE (fE bf 87 (dc L87)) 88 (dc L88)) 89 (dc L89)) 90 c90) 95 c95) 97 c97f
theorem rP:cV prog primKe:=aQ (aQ (aQ (aQ (aQ (aQ bu L87_ok) L88_ok) L89_ok) c90_ok) c95_ok) c97f_ok
def r37:PV:=.tuple [slx [2,3],ii 0]
theorem k37:ab prog 37 [vS,fx [0,1]] [] (.ret r37) []:=bT rP (k:=300) (by kernel_rfl)
def r38:PV:=.tuple [.sl .a [slx [0,2,4],slx [0,3,4]],ii 0]
theorem k38:ab prog 38 [vS,fx [0,-1,4]] [] (.ret r38) []:=bT rP (k:=300) (by kernel_rfl)
end Go.Pv
