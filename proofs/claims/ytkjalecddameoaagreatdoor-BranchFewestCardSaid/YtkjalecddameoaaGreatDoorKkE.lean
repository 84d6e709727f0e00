import Derived.Test.YtkjalecddameoaaGreatDoorKkA
import Derived.Test.YtkjalecddameoaaGreatDoorQhSo
import Derived.Test.YtkjalecddameoaaGreatDoorQiRef
import Derived.Test.YtkjalecddameoaaGreatDoorQhLib
set_option linter.all false
open Go.Proofs.Tryz
namespace Go.Pv
open Go Go.RowKit Go.Proofs
set_option maxRecDepth 200000
set_option maxHeartbeats 80000000
def fx(l:List Int):PV:=.sl .f (l.map ii)
def r23:PV:=.tuple [vPl,ii 0]
theorem k23:ab prog 23 [vS] [] (.ret r23) []:=al.at c23_ok (by kernel_rfl)
def r24:PV:=.tuple [ii 1,ii 0]
theorem k24:ab prog 24 [vS,fx [0,2,4]] [] (.ret r24) []:=al.at c24_ok (by kernel_rfl)
def r25:PV:=.tuple [slx [0,1,3],ii 0]
theorem k25:ab prog 25 [vS,fx [0,1,2,4]] [] (.ret r25) []:=al.at c25_ok (by kernel_rfl)
def r26:PV:=.tuple [slx [3,2,2,2,3],ii 0]
theorem k26:ab prog 26 [vS] [] (.ret r26) []:=al.at c26_ok (by kernel_rfl)
def primKe:iY:=fE (fE (fE (fE (fE (fE bf 87 (dc L87)) 88 (dc L88)) 89 (dc L89)) 90 c90) 95 c95) 97 c97f
theorem rP:cV prog primKe:=aQ (aQ (aQ (aQ (aQ (aQ bu L87_ok) L88_ok) L89_ok) c90_ok) Ij) c97f_ok
def r37:PV:=.tuple [slx [2,3],ii 0]
theorem k37:ab prog 37 [vS,fx [0,1]] [] (.ret r37) []:=bT rP (k:=300) (by kernel_rfl)
def r38:PV:=.tuple [.sl .a [slx [0,2,4],slx [0,3,4]],ii 0]
theorem k38:ab prog 38 [vS,fx [0,-1,4]] [] (.ret r38) []:=bT rP (k:=300) (by kernel_rfl)
theorem pcallM{pr:iY}(hp:cV prog pr){f:FuncId}{args:List PV}{v:PV}{k:Nat}(h:ev prog meB TT pr k (.call f args [])=some (.call (.ret v) [])):ab prog f args [] (.ret v) []:=(dC hTT meB_ok mixed named hp h).2.1
def txtB:List UInt8:=[115,116,111,114,121,32,49,10,115,99,101,110,101,32,48,32,49,32,49,32,45,10,114,117,108,101,32,48,32,49,10,101,110,100,32,48,56,52,10]
def vR:PV:=.agg [ii 1,.sl .a [.agg [ii 0,ii 1,ii 1,.bool false,.bool false]],.sl .a [.agg [ii 0,.sl .a [ii 1]]]]
def primKf:iY:=fE (fE bf 167 c167) 219 c219
theorem yC:cV prog primKf:=aQ (aQ bu Aq) c219_ok
theorem k116:ab prog 116 [vR] [] (.ret (.str txtB)) []:=pcallM yC (k:=300) (by kernel_rfl)
def L116:List (List PV×PV):=[([vR],.str txtB)]
theorem L116_ok:al prog 116 (dc L116):=gO (ent func116 rfl) k116 (by kernel_rfl)
def L87r:List (List PV×PV):=[([vR],.bool true)]
theorem L87r_ok:al prog 87 (dc L87r):=gO (ent func87 rfl) (al.at qE (by kernel_rfl)) (by kernel_rfl)
def primKg:iY:=fun cf f args sg =>
 if f=117 then match c117 cf args sg with
  |some r=>some (some r)
  |none=>none
 else fE (fE (fE (fE bf 167 c167) 169 c169) 116 (dc L116)) 87 (dc L87r) cf f args sg
theorem z7:cV prog primKg:=fun cf hcf f args sg r sg' h=>by
 unfold primKg at h;split at h
 ·rename_i hf
  subst hf;split at h <;> cases h
  rename_i h1;exact xz hcf _ _ _ _ h1
 ·exact aQ (aQ (aQ (aQ bu Aq) c169_ok) L116_ok) L87r_ok cf hcf _ _ _ _ _ h
def r58:PV:=.tuple [vR,ii 0]
theorem k58:ab prog 58 [.str txtB] [] (.ret r58) []:=bT z7 (k:=300) (by kernel_rfl)
theorem k59:ab prog 59 [vR] [] (.ret (.str txtB)) []:=bT bu (k:=300) (by kernel_rfl)
end Go.Pv
