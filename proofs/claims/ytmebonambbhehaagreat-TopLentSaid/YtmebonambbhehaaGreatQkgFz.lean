import Derived.Test.YtmebonambbhehaaGreatQhPr
set_option linter.all false
open Go.Proofs.Tryz
namespace Go.Pv
open Go Go.RowKit Go.Proofs
set_option maxRecDepth 200000
set_option maxHeartbeats 80000000
theorem kg5:ev prog noM TT bf 300 (.call 41 [pln 180 200 [0,2,4]] [])=some (.call (.ret noP) []):=by kernel_rfl
theorem kg6:ev prog noM TT bf 300 (.call 41 [pln 180 200 [0,3,4]] [])=some (.call (.ret noP) []):=by kernel_rfl
theorem kg9:ev prog noM TT bf 300 (.call 41 [pln 210 220 [0,1,3,4]] [])=some (.call (.ret noP) []):=by kernel_rfl
theorem kg7:ev prog noM TT bf 300 (.call 41 [pln 210 220 [0,1,2,3,4]] [])=some (.call (.ret noP) []):=by kernel_rfl
theorem kg8:ev prog noM TT bf 300 (.call 41 [pln 210 220 [0,1,2,4]] [])=some (.call (.ret noP) []):=by kernel_rfl
theorem kg10:ev prog noM TT bf 300 (.call 41 [pln 210 220 [0,2,3,4]] [])=some (.call (.ret noP) []):=by kernel_rfl
theorem kg11:ev prog noM TT bf 300 (.call 41 [pln 210 220 [0,2,4]] [])=some (.call (.ret noP) []):=by kernel_rfl
theorem kg12:ev prog noM TT bf 300 (.call 41 [pln 210 220 [0,3,4]] [])=some (.call (.ret noP) []):=by kernel_rfl
end Go.Pv
