import Derived.Test.YtmebonambbhehaaGreatQkkAz
set_option linter.all false
open Go.Proofs.Tryz
namespace Go.Pv
open Go Go.RowKit Go.Proofs
set_option maxRecDepth 200000
set_option maxHeartbeats 80000000
def L76:List (List PV×PV):=[([pln 180 200 [0,1,2,3,4]],.tuple [.sl .a [ii 0,ii 1,ii 2,ii 4],.sl .a [ii 40,ii 20,ii 60,ii 60],ii 0]),([pln 180 200 [0,1,2,4]],.tuple [.sl .a [ii 0,ii 1,ii 2,ii 3],.sl .a [ii 40,ii 20,ii 60,ii 60],ii 0]),([pln 180 200 [0,1,3,4]],noP),([pln 180 200 [0,2,3,4]],noP),([pln 180 200 [0,2,4]],noP),([pln 180 200 [0,3,4]],noP),([pln 210 220 [0,1,2,3,4]],noP),([pln 210 220 [0,1,2,4]],noP),([pln 210 220 [0,1,3,4]],noP),([pln 210 220 [0,2,3,4]],noP),([pln 210 220 [0,2,4]],noP),([pln 210 220 [0,3,4]],noP)]
theorem L76_ok:dU prog 41 (dc L76):=LU (ent func41 rfl) (by
 intro p hp;simp only[L76,D6,Eb,EM]at hp;rcases hp with rfl|rfl|rfl|rfl|rfl|rfl|rfl|rfl|rfl|rfl|rfl|rfl
 ·exact bT zA kg1
 ·exact bT xL kg2
 ·exact bT bu kg3
 ·exact bT bu kg4
 ·exact bT bu kg5
 ·exact bT bu kg6
 ·exact bT bu kg7
 ·exact bT bu kg8
 ·exact bT bu kg9
 ·exact bT bu kg10
 ·exact bT bu kg11
 ·exact bT bu kg12) (by kernel_rfl)
def primKa:iY:=fun cf f args sg =>
 if f=92 then match c117 cf args sg with
  |some r=>some (some r)
  |none=>none
 else fE (fE bf 41 (dc L76)) 147 c111 cf f args sg
theorem bA:nt prog primKa:=fun cf hcf f args sg r sg' h=>by
 unfold primKa at h;split at h
 ·rename_i hf
  subst hf;split at h <;> cases h
  rename_i h1;exact c117_ok hcf _ _ _ _ h1
 ·exact aQ (aQ bu L76_ok) pK cf hcf _ _ _ _ _ h
def stg(s n:PV)(p:List Int):PV:=match s,n with
 |.agg a,.agg b=>.agg (a++b++[slx p])
 |_,_=>.nilp
theorem kvSN0:ab prog 69 [stg vS vN [0,1,2,3,4]] [] (.ret (ii 4)) []:=bT bA (k:=300) (by kernel_rfl)
theorem kvSN1:ab prog 69 [stg vS vN [0,1,2,4]] [] (.ret (ii 4)) []:=bT bA (k:=300) (by kernel_rfl)
theorem kvSN2:ab prog 69 [stg vS vN [0,1,3,4]] [] (.ret (ii 3)) []:=bT bA (k:=300) (by kernel_rfl)
theorem kvSN3:ab prog 69 [stg vS vN [0,2,3,4]] [] (.ret (ii 3)) []:=bT bA (k:=300) (by kernel_rfl)
theorem kvSN4:ab prog 69 [stg vS vN [0,2,4]] [] (.ret (ii 3)) []:=bT bA (k:=300) (by kernel_rfl)
theorem kvSN5:ab prog 69 [stg vS vN [0,3,4]] [] (.ret (ii 3)) []:=bT bA (k:=300) (by kernel_rfl)
theorem kvSM0:ab prog 69 [stg vS vM [0,1,2,3,4]] [] (.ret (ii 3)) []:=bT bA (k:=300) (by kernel_rfl)
theorem kvSM1:ab prog 69 [stg vS vM [0,1,2,4]] [] (.ret (ii 3)) []:=bT bA (k:=300) (by kernel_rfl)
theorem kvSM2:ab prog 69 [stg vS vM [0,1,3,4]] [] (.ret (ii 3)) []:=bT bA (k:=300) (by kernel_rfl)
theorem kvSM3:ab prog 69 [stg vS vM [0,2,3,4]] [] (.ret (ii 3)) []:=bT bA (k:=300) (by kernel_rfl)
theorem kvSM4:ab prog 69 [stg vS vM [0,2,4]] [] (.ret (ii 3)) []:=bT bA (k:=300) (by kernel_rfl)
theorem kvSM5:ab prog 69 [stg vS vM [0,3,4]] [] (.ret (ii 3)) []:=bT bA (k:=300) (by kernel_rfl)
theorem kvTN0:ab prog 69 [stg tT vN [0,1,2,3,4]] [] (.ret (ii 4)) []:=bT bA (k:=300) (by kernel_rfl)
theorem kvTN1:ab prog 69 [stg tT vN [0,1,2,4]] [] (.ret (ii 4)) []:=bT bA (k:=300) (by kernel_rfl)
theorem kvTN2:ab prog 69 [stg tT vN [0,1,3,4]] [] (.ret (ii 1)) []:=bT bA (k:=300) (by kernel_rfl)
theorem kvTN3:ab prog 69 [stg tT vN [0,2,3,4]] [] (.ret (ii 3)) []:=bT bA (k:=300) (by kernel_rfl)
theorem kvTN4:ab prog 69 [stg tT vN [0,2,4]] [] (.ret (ii 3)) []:=bT bA (k:=300) (by kernel_rfl)
theorem kvTN5:ab prog 69 [stg tT vN [0,3,4]] [] (.ret (ii 1)) []:=bT bA (k:=300) (by kernel_rfl)
def L102:List (List PV×PV):=[([stg vS vN [0,1,2,3,4]],ii 4),([stg vS vN [0,1,2,4]],ii 4),([stg vS vN [0,1,3,4]],ii 3),([stg vS vN [0,2,3,4]],ii 3),([stg vS vN [0,2,4]],ii 3),([stg vS vN [0,3,4]],ii 3),([stg vS vM [0,1,2,3,4]],ii 3),([stg vS vM [0,1,2,4]],ii 3),([stg vS vM [0,1,3,4]],ii 3),([stg vS vM [0,2,3,4]],ii 3),([stg vS vM [0,2,4]],ii 3),([stg vS vM [0,3,4]],ii 3),([stg tT vN [0,1,2,3,4]],ii 4),([stg tT vN [0,1,2,4]],ii 4),([stg tT vN [0,1,3,4]],ii 1),([stg tT vN [0,2,3,4]],ii 3),([stg tT vN [0,2,4]],ii 3),([stg tT vN [0,3,4]],ii 1)]
theorem L102_ok:dU prog 69 (dc L102):=LU (ent func69 rfl) (by
 intro p hp;simp only[L102,D6,Eb,EM]at hp;rcases hp with rfl|rfl|rfl|rfl|rfl|rfl|rfl|rfl|rfl|rfl|rfl|rfl|rfl|rfl|rfl|rfl|rfl|rfl
 ·exact kvSN0
 ·exact kvSN1
 ·exact kvSN2
 ·exact kvSN3
 ·exact kvSN4
 ·exact kvSN5
 ·exact kvSM0
 ·exact kvSM1
 ·exact kvSM2
 ·exact kvSM3
 ·exact kvSM4
 ·exact kvSM5
 ·exact kvTN0
 ·exact kvTN1
 ·exact kvTN2
 ·exact kvTN3
 ·exact kvTN4
 ·exact kvTN5) (by kernel_rfl)
end Go.Pv
