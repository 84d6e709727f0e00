import Derived.Test.YtmebonambbhehaaGreatQkcBz
set_option linter.all false
open Go.Proofs.Tryz
namespace Go.Pv
open Go Go.RowKit Go.Proofs
set_option maxRecDepth 200000
set_option maxHeartbeats 80000000
def canLB:List (List PV×PV):=[([kcB1a],.bool false),([kcB2a],.bool true),([kcB3a],.bool false),([kcB4a],.bool false),([kcB5a],.bool false),([kcB6a],.bool false),([kcB7a],.bool false),([kcB8a],.bool false),([kcB9a],.bool false),([kcB10a],.bool false),([kcB11a],.bool false),([kcB12a],.bool false),([kcB13a],.bool false),([kcB14a],.bool false),([kcB15a],.bool false),([kcB16a],.bool false),([kcB17a],.bool true),([kcB18a],.bool true),([kcB19a],.bool true),([kcB20a],.bool false)]
theorem canLB_ok:dU prog 73 (dc canLB):=LU (ent func73 rfl) (by
 intro p hp;simp only[canLB,D6,Eb,EM]at hp;rcases hp with rfl|rfl|rfl|rfl|rfl|rfl|rfl|rfl|rfl|rfl|rfl|rfl|rfl|rfl|rfl|rfl|rfl|rfl|rfl|rfl
 ·exact(ci _ kcB1).2
 ·exact(ci _ kcB2).2
 ·exact(ci _ kcB3).2
 ·exact(ci _ kcB4).2
 ·exact(ci _ kcB5).2
 ·exact(ci _ kcB6).2
 ·exact(ci _ kcB7).2
 ·exact(ci _ kcB8).2
 ·exact(ci _ kcB9).2
 ·exact(ci _ kcB10).2
 ·exact(ci _ kcB11).2
 ·exact(ci _ kcB12).2
 ·exact(ci _ kcB13).2
 ·exact(ci _ kcB14).2
 ·exact(ci _ kcB15).2
 ·exact(ci _ kcB16).2
 ·exact(ci _ kcB17).2
 ·exact(ci _ kcB18).2
 ·exact(ci _ kcB19).2
 ·exact(ci _ kcB20).2) (by kernel_rfl)
def AT:CallF->FuncId->List PV->List Box->Option (Option (PRes×List Box)):=fun cf f args sg =>
 if f=73 then match Lu (dc canLB) args sg with
  |some r=>some (some r)
  |none=>none
 else bf cf f args sg
theorem xL:nt prog AT:=fun cf hcf f args sg r sg' h=>by
 unfold AT at h;split at h
 ·rename_i hf
  subst hf;split at h <;> cases h
  rename_i h1;exact canLB_ok.snap _ _ _ _ h1
 ·exact bu cf hcf _ _ _ _ _ h
theorem kg2:ev prog noM TT AT 300 (.call 41 [pln 180 200 [0,1,2,4]] [])=some (.call (.ret (.tuple [.sl .a [ii 0,ii 1,ii 2,ii 3],.sl .a [ii 40,ii 20,ii 60,ii 60],ii 0])) []):=by kernel_rfl
theorem kg3:ev prog noM TT bf 300 (.call 41 [pln 180 200 [0,1,3,4]] [])=some (.call (.ret noP) []):=by kernel_rfl
theorem kg4:ev prog noM TT bf 300 (.call 41 [pln 180 200 [0,2,3,4]] [])=some (.call (.ret noP) []):=by kernel_rfl
end Go.Pv
