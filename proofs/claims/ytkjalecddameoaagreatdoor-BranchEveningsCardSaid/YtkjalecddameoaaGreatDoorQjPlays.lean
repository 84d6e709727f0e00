import Derived.Test.YtkjalecddameoaaGreatDoorQiRef
set_option linter.all false
open Go.Proofs.Tryz
namespace Go.Pv
open Go Go.RowKit Go.Proofs
set_option maxRecDepth 200000
set_option maxHeartbeats 8000000
def cfLa:CallF:=aE (aE (aE (aE (aE (aE (aE cf0 19 c19) 21 c21) 56 c56) 23 c23) 20 c20) 31 c31) 40 cSls
theorem cfLa_ok(hk:al prog 21 c21):CallFOk prog cfLa:=ah (ah (ah (ah (ah (ah (ah aa c19_ok) hk) c56_ok) c23_ok) c20_ok) CF) Cx
def cfLb:CallF:=aE (aE (aE (aE (aE (aE (aE (aE (aE cfLa 30 c30) 24 c24) 25 c25) 26 c26) 33 c33) 32 cSw) 34 c34) 35 c35) 36 c36
theorem cfLb_ok(hk:al prog 21 c21):CallFOk prog cfLb:=ah (ah (ah (ah (ah (ah (ah (ah (ah (cfLa_ok hk) c30_ok) c24_ok) c25_ok) c26_ok) c33_ok) c32_ok) c34_ok) c35_ok) c36_ok
def cfLc:CallF:=aE cfLb 29 yD
theorem cfLc_ok(hk:al prog 21 c21):CallFOk prog cfLc:=ah (cfLb_ok hk) sA
end Go.Pv
