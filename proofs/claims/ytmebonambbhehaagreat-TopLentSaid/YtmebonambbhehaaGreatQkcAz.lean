import Derived.Test.YtmebonambbhehaaGreatQhPr
set_option linter.all false
open Go.Proofs.Tryz
namespace Go.Pv
open Go Go.RowKit Go.Proofs
set_option maxRecDepth 200000
set_option maxHeartbeats 80000000
def kcA1a:PV:=.agg [ii 0,ii 60,ii 70,ii 120,ii 130,ii 180,ii 200,.sl .a [.agg [ii 0,ii 40,ii 40,.bool false,ii (-1)],.agg [ii 0,ii 20,ii 20,.bool true,ii (-1)],.agg [ii 1,ii 50,ii 50,.bool false,ii (-1)],.agg [ii 1,ii 30,ii 40,.bool true,ii (-1)],.agg [ii 2,ii 55,ii 70,.bool false,ii (-1)]],.sl .a [ii 0,ii 1,ii 2,ii 4]]
theorem kcA1:ev prog noM TT bf 300 (.call 73 [kcA1a] [])=some (.call (.ret (.bool false)) []):=by kernel_rfl
def kcA2a:PV:=.agg [ii 0,ii 60,ii 70,ii 120,ii 130,ii 180,ii 200,.sl .a [.agg [ii 0,ii 40,ii 40,.bool false,ii (-1)],.agg [ii 0,ii 20,ii 20,.bool true,ii (-1)],.agg [ii 1,ii 50,ii 60,.bool false,ii (-1)],.agg [ii 1,ii 30,ii 40,.bool true,ii (-1)],.agg [ii 2,ii 55,ii 70,.bool false,ii (-1)]],.sl .a [ii 0,ii 1,ii 2,ii 4]]
theorem kcA2:ev prog noM TT bf 300 (.call 73 [kcA2a] [])=some (.call (.ret (.bool true)) []):=by kernel_rfl
def kcA3a:PV:=.agg [ii 0,ii 60,ii 70,ii 120,ii 130,ii 180,ii 200,.sl .a [.agg [ii 0,ii 40,ii 40,.bool false,ii (-1)],.agg [ii 0,ii 20,ii 20,.bool true,ii (-1)],.agg [ii 1,ii 51,ii 51,.bool false,ii (-1)],.agg [ii 1,ii 30,ii 40,.bool true,ii (-1)],.agg [ii 2,ii 55,ii 70,.bool false,ii (-1)]],.sl .a [ii 0,ii 1,ii 2,ii 4]]
theorem kcA3:ev prog noM TT bf 300 (.call 73 [kcA3a] [])=some (.call (.ret (.bool false)) []):=by kernel_rfl
def kcA4a:PV:=.agg [ii 0,ii 60,ii 70,ii 120,ii 130,ii 180,ii 200,.sl .a [.agg [ii 0,ii 40,ii 40,.bool false,ii (-1)],.agg [ii 0,ii 20,ii 20,.bool true,ii (-1)],.agg [ii 1,ii 52,ii 52,.bool false,ii (-1)],.agg [ii 1,ii 30,ii 40,.bool true,ii (-1)],.agg [ii 2,ii 55,ii 70,.bool false,ii (-1)]],.sl .a [ii 0,ii 1,ii 2,ii 4]]
theorem kcA4:ev prog noM TT bf 300 (.call 73 [kcA4a] [])=some (.call (.ret (.bool false)) []):=by kernel_rfl
def kcA5a:PV:=.agg [ii 0,ii 60,ii 70,ii 120,ii 130,ii 180,ii 200,.sl .a [.agg [ii 0,ii 40,ii 40,.bool false,ii (-1)],.agg [ii 0,ii 20,ii 20,.bool true,ii (-1)],.agg [ii 1,ii 53,ii 53,.bool false,ii (-1)],.agg [ii 1,ii 30,ii 40,.bool true,ii (-1)],.agg [ii 2,ii 55,ii 70,.bool false,ii (-1)]],.sl .a [ii 0,ii 1,ii 2,ii 4]]
theorem kcA5:ev prog noM TT bf 300 (.call 73 [kcA5a] [])=some (.call (.ret (.bool false)) []):=by kernel_rfl
def kcA6a:PV:=.agg [ii 0,ii 60,ii 70,ii 120,ii 130,ii 180,ii 200,.sl .a [.agg [ii 0,ii 40,ii 40,.bool false,ii (-1)],.agg [ii 0,ii 20,ii 20,.bool true,ii (-1)],.agg [ii 1,ii 54,ii 54,.bool false,ii (-1)],.agg [ii 1,ii 30,ii 40,.bool true,ii (-1)],.agg [ii 2,ii 55,ii 70,.bool false,ii (-1)]],.sl .a [ii 0,ii 1,ii 2,ii 4]]
theorem kcA6:ev prog noM TT bf 300 (.call 73 [kcA6a] [])=some (.call (.ret (.bool false)) []):=by kernel_rfl
def kcA7a:PV:=.agg [ii 0,ii 60,ii 70,ii 120,ii 130,ii 180,ii 200,.sl .a [.agg [ii 0,ii 40,ii 40,.bool false,ii (-1)],.agg [ii 0,ii 20,ii 20,.bool true,ii (-1)],.agg [ii 1,ii 55,ii 55,.bool false,ii (-1)],.agg [ii 1,ii 30,ii 40,.bool true,ii (-1)],.agg [ii 2,ii 55,ii 70,.bool false,ii (-1)]],.sl .a [ii 0,ii 1,ii 2,ii 4]]
theorem kcA7:ev prog noM TT bf 300 (.call 73 [kcA7a] [])=some (.call (.ret (.bool false)) []):=by kernel_rfl
def kcA8a:PV:=.agg [ii 0,ii 60,ii 70,ii 120,ii 130,ii 180,ii 200,.sl .a [.agg [ii 0,ii 40,ii 40,.bool false,ii (-1)],.agg [ii 0,ii 20,ii 20,.bool true,ii (-1)],.agg [ii 1,ii 56,ii 56,.bool false,ii (-1)],.agg [ii 1,ii 30,ii 40,.bool true,ii (-1)],.agg [ii 2,ii 55,ii 70,.bool false,ii (-1)]],.sl .a [ii 0,ii 1,ii 2,ii 4]]
theorem kcA8:ev prog noM TT bf 300 (.call 73 [kcA8a] [])=some (.call (.ret (.bool false)) []):=by kernel_rfl
def kcA9a:PV:=.agg [ii 0,ii 60,ii 70,ii 120,ii 130,ii 180,ii 200,.sl .a [.agg [ii 0,ii 40,ii 40,.bool false,ii (-1)],.agg [ii 0,ii 20,ii 20,.bool true,ii (-1)],.agg [ii 1,ii 57,ii 57,.bool false,ii (-1)],.agg [ii 1,ii 30,ii 40,.bool true,ii (-1)],.agg [ii 2,ii 55,ii 70,.bool false,ii (-1)]],.sl .a [ii 0,ii 1,ii 2,ii 4]]
theorem kcA9:ev prog noM TT bf 300 (.call 73 [kcA9a] [])=some (.call (.ret (.bool false)) []):=by kernel_rfl
def kcA10a:PV:=.agg [ii 0,ii 60,ii 70,ii 120,ii 130,ii 180,ii 200,.sl .a [.agg [ii 0,ii 40,ii 40,.bool false,ii (-1)],.agg [ii 0,ii 20,ii 20,.bool true,ii (-1)],.agg [ii 1,ii 58,ii 58,.bool false,ii (-1)],.agg [ii 1,ii 30,ii 40,.bool true,ii (-1)],.agg [ii 2,ii 55,ii 70,.bool false,ii (-1)]],.sl .a [ii 0,ii 1,ii 2,ii 4]]
theorem kcA10:ev prog noM TT bf 300 (.call 73 [kcA10a] [])=some (.call (.ret (.bool false)) []):=by kernel_rfl
def kcA11a:PV:=.agg [ii 0,ii 60,ii 70,ii 120,ii 130,ii 180,ii 200,.sl .a [.agg [ii 0,ii 40,ii 40,.bool false,ii (-1)],.agg [ii 0,ii 20,ii 20,.bool true,ii (-1)],.agg [ii 1,ii 59,ii 59,.bool false,ii (-1)],.agg [ii 1,ii 30,ii 40,.bool true,ii (-1)],.agg [ii 2,ii 55,ii 70,.bool false,ii (-1)]],.sl .a [ii 0,ii 1,ii 2,ii 4]]
theorem kcA11:ev prog noM TT bf 300 (.call 73 [kcA11a] [])=some (.call (.ret (.bool false)) []):=by kernel_rfl
def kcA12a:PV:=.agg [ii 0,ii 60,ii 70,ii 120,ii 130,ii 180,ii 200,.sl .a [.agg [ii 0,ii 40,ii 40,.bool false,ii (-1)],.agg [ii 0,ii 20,ii 20,.bool true,ii (-1)],.agg [ii 1,ii 60,ii 60,.bool false,ii (-1)],.agg [ii 1,ii 30,ii 40,.bool true,ii (-1)],.agg [ii 2,ii 55,ii 55,.bool false,ii (-1)]],.sl .a [ii 0,ii 1,ii 2,ii 4]]
theorem kcA12:ev prog noM TT bf 300 (.call 73 [kcA12a] [])=some (.call (.ret (.bool false)) []):=by kernel_rfl
def kcA13a:PV:=.agg [ii 0,ii 60,ii 70,ii 120,ii 130,ii 180,ii 200,.sl .a [.agg [ii 0,ii 40,ii 40,.bool false,ii (-1)],.agg [ii 0,ii 20,ii 20,.bool true,ii (-1)],.agg [ii 1,ii 60,ii 60,.bool false,ii (-1)],.agg [ii 1,ii 30,ii 40,.bool true,ii (-1)],.agg [ii 2,ii 56,ii 56,.bool false,ii (-1)]],.sl .a [ii 0,ii 1,ii 2,ii 4]]
theorem kcA13:ev prog noM TT bf 300 (.call 73 [kcA13a] [])=some (.call (.ret (.bool false)) []):=by kernel_rfl
def kcA14a:PV:=.agg [ii 0,ii 60,ii 70,ii 120,ii 130,ii 180,ii 200,.sl .a [.agg [ii 0,ii 40,ii 40,.bool false,ii (-1)],.agg [ii 0,ii 20,ii 20,.bool true,ii (-1)],.agg [ii 1,ii 60,ii 60,.bool false,ii (-1)],.agg [ii 1,ii 30,ii 40,.bool true,ii (-1)],.agg [ii 2,ii 57,ii 57,.bool false,ii (-1)]],.sl .a [ii 0,ii 1,ii 2,ii 4]]
theorem kcA14:ev prog noM TT bf 300 (.call 73 [kcA14a] [])=some (.call (.ret (.bool false)) []):=by kernel_rfl
def kcA15a:PV:=.agg [ii 0,ii 60,ii 70,ii 120,ii 130,ii 180,ii 200,.sl .a [.agg [ii 0,ii 40,ii 40,.bool false,ii (-1)],.agg [ii 0,ii 20,ii 20,.bool true,ii (-1)],.agg [ii 1,ii 60,ii 60,.bool false,ii (-1)],.agg [ii 1,ii 30,ii 40,.bool true,ii (-1)],.agg [ii 2,ii 58,ii 58,.bool false,ii (-1)]],.sl .a [ii 0,ii 1,ii 2,ii 4]]
theorem kcA15:ev prog noM TT bf 300 (.call 73 [kcA15a] [])=some (.call (.ret (.bool false)) []):=by kernel_rfl
def kcA16a:PV:=.agg [ii 0,ii 60,ii 70,ii 120,ii 130,ii 180,ii 200,.sl .a [.agg [ii 0,ii 40,ii 40,.bool false,ii (-1)],.agg [ii 0,ii 20,ii 20,.bool true,ii (-1)],.agg [ii 1,ii 60,ii 60,.bool false,ii (-1)],.agg [ii 1,ii 30,ii 40,.bool true,ii (-1)],.agg [ii 2,ii 59,ii 59,.bool false,ii (-1)]],.sl .a [ii 0,ii 1,ii 2,ii 4]]
theorem kcA16:ev prog noM TT bf 300 (.call 73 [kcA16a] [])=some (.call (.ret (.bool false)) []):=by kernel_rfl
def kcA17a:PV:=.agg [ii 0,ii 60,ii 70,ii 120,ii 130,ii 180,ii 200,.sl .a [.agg [ii 0,ii 40,ii 40,.bool false,ii (-1)],.agg [ii 0,ii 20,ii 20,.bool true,ii (-1)],.agg [ii 1,ii 60,ii 60,.bool false,ii (-1)],.agg [ii 1,ii 30,ii 40,.bool true,ii (-1)],.agg [ii 2,ii 60,ii 60,.bool false,ii (-1)]],.sl .a [ii 0,ii 1,ii 2,ii 4]]
theorem kcA17:ev prog noM TT bf 300 (.call 73 [kcA17a] [])=some (.call (.ret (.bool true)) []):=by kernel_rfl
def kcA18a:PV:=.agg [ii 0,ii 60,ii 70,ii 120,ii 130,ii 180,ii 200,.sl .a [.agg [ii 0,ii 40,ii 40,.bool false,ii (-1)],.agg [ii 0,ii 20,ii 30,.bool true,ii (-1)],.agg [ii 1,ii 50,ii 60,.bool false,ii (-1)],.agg [ii 1,ii 30,ii 40,.bool true,ii (-1)],.agg [ii 2,ii 55,ii 70,.bool false,ii (-1)]],.sl .a [ii 0,ii 1,ii 2,ii 4]]
theorem kcA18:ev prog noM TT bf 300 (.call 73 [kcA18a] [])=some (.call (.ret (.bool true)) []):=by kernel_rfl
def kcA19a:PV:=.agg [ii 0,ii 60,ii 70,ii 120,ii 130,ii 180,ii 200,.sl .a [.agg [ii 0,ii 40,ii 50,.bool false,ii (-1)],.agg [ii 0,ii 20,ii 30,.bool true,ii (-1)],.agg [ii 1,ii 50,ii 60,.bool false,ii (-1)],.agg [ii 1,ii 30,ii 40,.bool true,ii (-1)],.agg [ii 2,ii 55,ii 70,.bool false,ii (-1)]],.sl .a [ii 0,ii 1,ii 2,ii 3,ii 4]]
theorem kcA19:ev prog noM TT bf 300 (.call 73 [kcA19a] [])=some (.call (.ret (.bool false)) []):=by kernel_rfl
def kcA20a:PV:=.agg [ii 0,ii 60,ii 70,ii 120,ii 130,ii 180,ii 200,.sl .a [.agg [ii 0,ii 40,ii 50,.bool false,ii (-1)],.agg [ii 0,ii 20,ii 30,.bool true,ii (-1)],.agg [ii 1,ii 50,ii 60,.bool false,ii (-1)],.agg [ii 1,ii 30,ii 40,.bool true,ii (-1)],.agg [ii 2,ii 55,ii 70,.bool false,ii (-1)]],.sl .a [ii 0,ii 1,ii 2,ii 4]]
theorem kcA20:ev prog noM TT bf 300 (.call 73 [kcA20a] [])=some (.call (.ret (.bool true)) []):=by kernel_rfl
def kcA21a:PV:=.agg [ii 0,ii 60,ii 70,ii 120,ii 130,ii 180,ii 200,.sl .a [.agg [ii 0,ii 40,ii 50,.bool false,ii (-1)],.agg [ii 0,ii 20,ii 30,.bool true,ii (-1)],.agg [ii 1,ii 50,ii 60,.bool false,ii (-1)],.agg [ii 1,ii 30,ii 40,.bool true,ii (-1)],.agg [ii 2,ii 55,ii 70,.bool false,ii (-1)]],.sl .a [ii 0,ii 2,ii 3,ii 4]]
theorem kcA21:ev prog noM TT bf 300 (.call 73 [kcA21a] [])=some (.call (.ret (.bool false)) []):=by kernel_rfl
def kcA22a:PV:=.agg [ii 0,ii 60,ii 70,ii 120,ii 130,ii 180,ii 200,.sl .a [.agg [ii 0,ii 40,ii 50,.bool false,ii (-1)],.agg [ii 0,ii 20,ii 30,.bool true,ii (-1)],.agg [ii 1,ii 50,ii 60,.bool false,ii (-1)],.agg [ii 1,ii 30,ii 40,.bool true,ii (-1)],.agg [ii 2,ii 55,ii 70,.bool false,ii (-1)]],.sl .a [ii 0,ii 2,ii 4]]
theorem kcA22:ev prog noM TT bf 300 (.call 73 [kcA22a] [])=some (.call (.ret (.bool false)) []):=by kernel_rfl
end Go.Pv
