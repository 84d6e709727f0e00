import Derived.Test.YtkjalecddameoaaGreatDoorKkC
import Derived.Test.YtkjalecddameoaaGreatDoorKkE
set_option linter.all false
open Go.Proofs.Tryz
namespace Go.Pv
open Go Go.RowKit Go.Proofs
set_option maxRecDepth 200000
set_option maxHeartbeats 80000000
theorem L81_ok:al prog 81 (dc [([],vS)]):=gO (ent func81 rfl) kkS rfl
theorem L83_ok:al prog 83 (dc [([],vN)]):=gO (ent func83 rfl) kkN rfl
theorem L84_ok:al prog 84 (dc [([],vM)]):=gO (ent func84 rfl) kkM rfl
theorem L23_ok:al prog 23 (dc [([vS],r23)]):=gO (ent func23 rfl) k23 (by kernel_rfl)
theorem L24_ok:al prog 24 (dc [([vS,fx [0,2,4]],r24)]):=gO (ent func24 rfl) k24 (by kernel_rfl)
theorem L25_ok:al prog 25 (dc [([vS,fx [0,1,2,4]],r25)]):=gO (ent func25 rfl) k25 (by kernel_rfl)
theorem L26_ok:al prog 26 (dc [([vS],r26)]):=gO (ent func26 rfl) k26 (by kernel_rfl)
theorem L37_ok:al prog 37 (dc [([vS,fx [0,1]],r37)]):=gO (ent func37 rfl) k37 (by kernel_rfl)
theorem L38_ok:al prog 38 (dc [([vS,fx [0,-1,4]],r38)]):=gO (ent func38 rfl) k38 (by kernel_rfl)
theorem L44_ok:al prog 44 (dc [([tT,vN],r44)]):=gO (ent func44 rfl) k44 (by kernel_rfl)
theorem L62_ok:al prog 62 (dc [([vS,vN],r62),([vS,vM],r62m)]):=Ap (ent func62 rfl) k62 k62m (by kernel_rfl) (by kernel_rfl)
theorem L45_ok:al prog 45 (dc [([vS,vN],r45)]):=gO (ent func45 rfl) k45 (by kernel_rfl)
theorem L50_ok:al prog 50 (dc [([vS,vN],r50)]):=gO (ent func50 rfl) k50 (by kernel_rfl)
theorem L51_ok:al prog 51 (dc [([vS,vN],r51)]):=gO (ent func51 rfl) k51 (by kernel_rfl)
theorem L58_ok:al prog 58 (dc [([.str txtB],r58)]):=gO (ent func58 rfl) k58 (by kernel_rfl)
theorem L59_ok:al prog 59 (dc [([vR],.str txtB)]):=gO (ent func59 rfl) k59 (by kernel_rfl)
def primZ1:iY:=fE (fE (fE (fE (fE (fE (fE (fE bf 81 (dc [([],vS)])) 82 c82) 83 (dc [([],vN)])) 84 (dc [([],vM)])) 23 (dc [([vS],r23)])) 24 (dc [([vS,fx [0,2,4]],r24)])) 25 (dc [([vS,fx [0,1,2,4]],r25)])) 26 (dc [([vS],r26)])
theorem xh:cV prog primZ1:=aQ (aQ (aQ (aQ (aQ (aQ (aQ (aQ bu L81_ok) c82_ok) L83_ok) L84_ok) L23_ok) L24_ok) L25_ok) L26_ok
def primZ2:iY:=fE (fE (fE (fE (fE primZ1 37 (dc [([vS,fx [0,1]],r37)])) 38 (dc [([vS,fx [0,-1,4]],r38)])) 44 (dc [([tT,vN],r44)])) 62 (dc [([vS,vN],r62),([vS,vM],r62m)])) 45 (dc [([vS,vN],r45)])
theorem zU:cV prog primZ2:=aQ (aQ (aQ (aQ (aQ xh L37_ok) L38_ok) L44_ok) L62_ok) L45_ok
def primZ:iY:=fE (fE (fE (fE primZ2 50 (dc [([vS,vN],r50)])) 51 (dc [([vS,vN],r51)])) 58 (dc [([.str txtB],r58)])) 59 (dc [([vR],.str txtB)])
theorem primZ_ok:cV prog primZ:=aQ (aQ (aQ (aQ zU L50_ok) L51_ok) L58_ok) L59_ok
theorem known_21:ab prog 21 [] [] (.ret (.bool true)) []:=bT primZ_ok (k:=300) (by kernel_rfl)
theorem c21_ok:al prog 21 c21:=al.of0 (ent func21 rfl) fun args sg r sg' h=>by
 unfold c21 at h;split at h <;> cases h
 exact⟨_,rfl,rfl,rfl,known_21⟩
end Go.Pv
