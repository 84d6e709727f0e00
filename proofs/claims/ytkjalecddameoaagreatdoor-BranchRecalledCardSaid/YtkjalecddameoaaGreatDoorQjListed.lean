/- The law BranchListed: its function returns true, whatever it is given. -/
import Derived.Test.YtkjalecddameoaaGreatDoorQjPlays
set_option linter.all false
namespace Go.Pv
open Go Go.RowKit Go.Proofs
set_option maxRecDepth 200000
set_option maxHeartbeats 8000000
theorem are_play {s : Sty} (hst : s.story = true) {p : List Int} (hp : p ∈ playsB s.e s.sc s.rl) : areB s.sc.length p 0 = true := by
 have := (Sty.story_ok hst).plays_fine p hp
 unfold areB
 rw [decide_eq_true this.2.1, Bool.true_and, List.all_eq_true]
 exact fun x hx => inB_iff.2 (by have := this.2.2 x hx; omega)
end Go.Pv
