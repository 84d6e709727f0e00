import Derived.Test.YtmebonambbhehaaGreatQkcAz
set_option linter.all false
namespace Go.Pv
open Go Go.RowKit Go.Proofs
set_option maxRecDepth 200000
set_option maxHeartbeats 80000000
def canLA:List (List PV×PV):=[([kcA1a],.bool false),([kcA2a],.bool true),([kcA3a],.bool false),([kcA4a],.bool false),([kcA5a],.bool false),([kcA6a],.bool false),([kcA7a],.bool false),([kcA8a],.bool false),([kcA9a],.bool false),([kcA10a],.bool false),([kcA11a],.bool false),([kcA12a],.bool false),([kcA13a],.bool false),([kcA14a],.bool false),([kcA15a],.bool false),([kcA16a],.bool false),([kcA17a],.bool true),([kcA18a],.bool true),([kcA19a],.bool false),([kcA20a],.bool true),([kcA21a],.bool false),([kcA22a],.bool false)]
theorem canLA_ok:dU Tryz.prog 73 (dc canLA):=LU (ent Tryz.func73 rfl) (by
 intro p hp;simp only[canLA,D6,Eb,EM]at hp;rcases hp with rfl|rfl|rfl|rfl|rfl|rfl|rfl|rfl|rfl|rfl|rfl|rfl|rfl|rfl|rfl|rfl|rfl|rfl|rfl|rfl|rfl|rfl
 ·exact(ci _ kcA1).2
 ·exact(ci _ kcA2).2
 ·exact(ci _ kcA3).2
 ·exact(ci _ kcA4).2
 ·exact(ci _ kcA5).2
 ·exact(ci _ kcA6).2
 ·exact(ci _ kcA7).2
 ·exact(ci _ kcA8).2
 ·exact(ci _ kcA9).2
 ·exact(ci _ kcA10).2
 ·exact(ci _ kcA11).2
 ·exact(ci _ kcA12).2
 ·exact(ci _ kcA13).2
 ·exact(ci _ kcA14).2
 ·exact(ci _ kcA15).2
 ·exact(ci _ kcA16).2
 ·exact(ci _ kcA17).2
 ·exact(ci _ kcA18).2
 ·exact(ci _ kcA19).2
 ·exact(ci _ kcA20).2
 ·exact(ci _ kcA21).2
 ·exact(ci _ kcA22).2) (by kernel_rfl)
def xN:CallF->FuncId->List PV->List Box->Option (Option (PRes×List Box)):=fun cf f args sg =>
 if f=73 then match Lu (dc canLA) args sg with
  |some r=>some (some r)
  |none=>none
 else bf cf f args sg
theorem zA:nt Tryz.prog xN:=fun cf hcf f args sg r sg' h=>by
 unfold xN at h;split at h
 ·rename_i hf
  subst hf;split at h <;> cases h
  rename_i h1;exact canLA_ok.snap _ _ _ _ h1
 ·exact bu cf hcf _ _ _ _ _ h
theorem kg1:ev Tryz.prog noM TT xN 300 (.call 41 [pln 180 200 [0,1,2,3,4]] [])=some (.call (.ret (.tuple [.sl .a [ii 0,ii 1,ii 2,ii 4],.sl .a [ii 40,ii 20,ii 60,ii 60],ii 0])) []):=by kernel_rfl
end Go.Pv
