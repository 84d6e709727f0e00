import Derived.Test.YtmebonambbhehaaGreatQhPr
set_option linter.all false
open Go.Proofs.Tryz
namespace Go.Pv
open Go Go.RowKit Go.Proofs
set_option maxRecDepth 200000
set_option maxHeartbeats 80000000
def kcB1a:PV:=.agg [ii 0,ii 60,ii 70,ii 120,ii 130,ii 180,ii 200,.sl .a [.agg [ii 0,ii 40,ii 40,.bool false,ii (-1)],.agg [ii 0,ii 20,ii 20,.bool true,ii (-1)],.agg [ii 1,ii 50,ii 50,.bool false,ii (-1)],.agg [ii 2,ii 55,ii 70,.bool false,ii (-1)]],.sl .a [ii 0,ii 1,ii 2,ii 3]]
theorem kcB1:ev prog noM TT bf 300 (.call 73 [kcB1a] [])=some (.call (.ret (.bool false)) []):=by kernel_rfl
def kcB2a:PV:=.agg [ii 0,ii 60,ii 70,ii 120,ii 130,ii 180,ii 200,.sl .a [.agg [ii 0,ii 40,ii 40,.bool false,ii (-1)],.agg [ii 0,ii 20,ii 20,.bool true,ii (-1)],.agg [ii 1,ii 50,ii 60,.bool false,ii (-1)],.agg [ii 2,ii 55,ii 70,.bool false,ii (-1)]],.sl .a [ii 0,ii 1,ii 2,ii 3]]
theorem kcB2:ev prog noM TT bf 300 (.call 73 [kcB2a] [])=some (.call (.ret (.bool true)) []):=by kernel_rfl
def kcB3a:PV:=.agg [ii 0,ii 60,ii 70,ii 120,ii 130,ii 180,ii 200,.sl .a [.agg [ii 0,ii 40,ii 40,.bool false,ii (-1)],.agg [ii 0,ii 20,ii 20,.bool true,ii (-1)],.agg [ii 1,ii 51,ii 51,.bool false,ii (-1)],.agg [ii 2,ii 55,ii 70,.bool false,ii (-1)]],.sl .a [ii 0,ii 1,ii 2,ii 3]]
theorem kcB3:ev prog noM TT bf 300 (.call 73 [kcB3a] [])=some (.call (.ret (.bool false)) []):=by kernel_rfl
def kcB4a:PV:=.agg [ii 0,ii 60,ii 70,ii 120,ii 130,ii 180,ii 200,.sl .a [.agg [ii 0,ii 40,ii 40,.bool false,ii (-1)],.agg [ii 0,ii 20,ii 20,.bool true,ii (-1)],.agg [ii 1,ii 52,ii 52,.bool false,ii (-1)],.agg [ii 2,ii 55,ii 70,.bool false,ii (-1)]],.sl .a [ii 0,ii 1,ii 2,ii 3]]
theorem kcB4:ev prog noM TT bf 300 (.call 73 [kcB4a] [])=some (.call (.ret (.bool false)) []):=by kernel_rfl
def kcB5a:PV:=.agg [ii 0,ii 60,ii 70,ii 120,ii 130,ii 180,ii 200,.sl .a [.agg [ii 0,ii 40,ii 40,.bool false,ii (-1)],.agg [ii 0,ii 20,ii 20,.bool true,ii (-1)],.agg [ii 1,ii 53,ii 53,.bool false,ii (-1)],.agg [ii 2,ii 55,ii 70,.bool false,ii (-1)]],.sl .a [ii 0,ii 1,ii 2,ii 3]]
theorem kcB5:ev prog noM TT bf 300 (.call 73 [kcB5a] [])=some (.call (.ret (.bool false)) []):=by kernel_rfl
def kcB6a:PV:=.agg [ii 0,ii 60,ii 70,ii 120,ii 130,ii 180,ii 200,.sl .a [.agg [ii 0,ii 40,ii 40,.bool false,ii (-1)],.agg [ii 0,ii 20,ii 20,.bool true,ii (-1)],.agg [ii 1,ii 54,ii 54,.bool false,ii (-1)],.agg [ii 2,ii 55,ii 70,.bool false,ii (-1)]],.sl .a [ii 0,ii 1,ii 2,ii 3]]
theorem kcB6:ev prog noM TT bf 300 (.call 73 [kcB6a] [])=some (.call (.ret (.bool false)) []):=by kernel_rfl
def kcB7a:PV:=.agg [ii 0,ii 60,ii 70,ii 120,ii 130,ii 180,ii 200,.sl .a [.agg [ii 0,ii 40,ii 40,.bool false,ii (-1)],.agg [ii 0,ii 20,ii 20,.bool true,ii (-1)],.agg [ii 1,ii 55,ii 55,.bool false,ii (-1)],.agg [ii 2,ii 55,ii 70,.bool false,ii (-1)]],.sl .a [ii 0,ii 1,ii 2,ii 3]]
theorem kcB7:ev prog noM TT bf 300 (.call 73 [kcB7a] [])=some (.call (.ret (.bool false)) []):=by kernel_rfl
def kcB8a:PV:=.agg [ii 0,ii 60,ii 70,ii 120,ii 130,ii 180,ii 200,.sl .a [.agg [ii 0,ii 40,ii 40,.bool false,ii (-1)],.agg [ii 0,ii 20,ii 20,.bool true,ii (-1)],.agg [ii 1,ii 56,ii 56,.bool false,ii (-1)],.agg [ii 2,ii 55,ii 70,.bool false,ii (-1)]],.sl .a [ii 0,ii 1,ii 2,ii 3]]
theorem kcB8:ev prog noM TT bf 300 (.call 73 [kcB8a] [])=some (.call (.ret (.bool false)) []):=by kernel_rfl
def kcB9a:PV:=.agg [ii 0,ii 60,ii 70,ii 120,ii 130,ii 180,ii 200,.sl .a [.agg [ii 0,ii 40,ii 40,.bool false,ii (-1)],.agg [ii 0,ii 20,ii 20,.bool true,ii (-1)],.agg [ii 1,ii 57,ii 57,.bool false,ii (-1)],.agg [ii 2,ii 55,ii 70,.bool false,ii (-1)]],.sl .a [ii 0,ii 1,ii 2,ii 3]]
theorem kcB9:ev prog noM TT bf 300 (.call 73 [kcB9a] [])=some (.call (.ret (.bool false)) []):=by kernel_rfl
def kcB10a:PV:=.agg [ii 0,ii 60,ii 70,ii 120,ii 130,ii 180,ii 200,.sl .a [.agg [ii 0,ii 40,ii 40,.bool false,ii (-1)],.agg [ii 0,ii 20,ii 20,.bool true,ii (-1)],.agg [ii 1,ii 58,ii 58,.bool false,ii (-1)],.agg [ii 2,ii 55,ii 70,.bool false,ii (-1)]],.sl .a [ii 0,ii 1,ii 2,ii 3]]
theorem kcB10:ev prog noM TT bf 300 (.call 73 [kcB10a] [])=some (.call (.ret (.bool false)) []):=by kernel_rfl
def kcB11a:PV:=.agg [ii 0,ii 60,ii 70,ii 120,ii 130,ii 180,ii 200,.sl .a [.agg [ii 0,ii 40,ii 40,.bool false,ii (-1)],.agg [ii 0,ii 20,ii 20,.bool true,ii (-1)],.agg [ii 1,ii 59,ii 59,.bool false,ii (-1)],.agg [ii 2,ii 55,ii 70,.bool false,ii (-1)]],.sl .a [ii 0,ii 1,ii 2,ii 3]]
theorem kcB11:ev prog noM TT bf 300 (.call 73 [kcB11a] [])=some (.call (.ret (.bool false)) []):=by kernel_rfl
def kcB12a:PV:=.agg [ii 0,ii 60,ii 70,ii 120,ii 130,ii 180,ii 200,.sl .a [.agg [ii 0,ii 40,ii 40,.bool false,ii (-1)],.agg [ii 0,ii 20,ii 20,.bool true,ii (-1)],.agg [ii 1,ii 60,ii 60,.bool false,ii (-1)],.agg [ii 2,ii 55,ii 55,.bool false,ii (-1)]],.sl .a [ii 0,ii 1,ii 2,ii 3]]
theorem kcB12:ev prog noM TT bf 300 (.call 73 [kcB12a] [])=some (.call (.ret (.bool false)) []):=by kernel_rfl
def kcB13a:PV:=.agg [ii 0,ii 60,ii 70,ii 120,ii 130,ii 180,ii 200,.sl .a [.agg [ii 0,ii 40,ii 40,.bool false,ii (-1)],.agg [ii 0,ii 20,ii 20,.bool true,ii (-1)],.agg [ii 1,ii 60,ii 60,.bool false,ii (-1)],.agg [ii 2,ii 56,ii 56,.bool false,ii (-1)]],.sl .a [ii 0,ii 1,ii 2,ii 3]]
theorem kcB13:ev prog noM TT bf 300 (.call 73 [kcB13a] [])=some (.call (.ret (.bool false)) []):=by kernel_rfl
def kcB14a:PV:=.agg [ii 0,ii 60,ii 70,ii 120,ii 130,ii 180,ii 200,.sl .a [.agg [ii 0,ii 40,ii 40,.bool false,ii (-1)],.agg [ii 0,ii 20,ii 20,.bool true,ii (-1)],.agg [ii 1,ii 60,ii 60,.bool false,ii (-1)],.agg [ii 2,ii 57,ii 57,.bool false,ii (-1)]],.sl .a [ii 0,ii 1,ii 2,ii 3]]
theorem kcB14:ev prog noM TT bf 300 (.call 73 [kcB14a] [])=some (.call (.ret (.bool false)) []):=by kernel_rfl
def kcB15a:PV:=.agg [ii 0,ii 60,ii 70,ii 120,ii 130,ii 180,ii 200,.sl .a [.agg [ii 0,ii 40,ii 40,.bool false,ii (-1)],.agg [ii 0,ii 20,ii 20,.bool true,ii (-1)],.agg [ii 1,ii 60,ii 60,.bool false,ii (-1)],.agg [ii 2,ii 58,ii 58,.bool false,ii (-1)]],.sl .a [ii 0,ii 1,ii 2,ii 3]]
theorem kcB15:ev prog noM TT bf 300 (.call 73 [kcB15a] [])=some (.call (.ret (.bool false)) []):=by kernel_rfl
def kcB16a:PV:=.agg [ii 0,ii 60,ii 70,ii 120,ii 130,ii 180,ii 200,.sl .a [.agg [ii 0,ii 40,ii 40,.bool false,ii (-1)],.agg [ii 0,ii 20,ii 20,.bool true,ii (-1)],.agg [ii 1,ii 60,ii 60,.bool false,ii (-1)],.agg [ii 2,ii 59,ii 59,.bool false,ii (-1)]],.sl .a [ii 0,ii 1,ii 2,ii 3]]
theorem kcB16:ev prog noM TT bf 300 (.call 73 [kcB16a] [])=some (.call (.ret (.bool false)) []):=by kernel_rfl
def kcB17a:PV:=.agg [ii 0,ii 60,ii 70,ii 120,ii 130,ii 180,ii 200,.sl .a [.agg [ii 0,ii 40,ii 40,.bool false,ii (-1)],.agg [ii 0,ii 20,ii 20,.bool true,ii (-1)],.agg [ii 1,ii 60,ii 60,.bool false,ii (-1)],.agg [ii 2,ii 60,ii 60,.bool false,ii (-1)]],.sl .a [ii 0,ii 1,ii 2,ii 3]]
theorem kcB17:ev prog noM TT bf 300 (.call 73 [kcB17a] [])=some (.call (.ret (.bool true)) []):=by kernel_rfl
def kcB18a:PV:=.agg [ii 0,ii 60,ii 70,ii 120,ii 130,ii 180,ii 200,.sl .a [.agg [ii 0,ii 40,ii 40,.bool false,ii (-1)],.agg [ii 0,ii 20,ii 30,.bool true,ii (-1)],.agg [ii 1,ii 50,ii 60,.bool false,ii (-1)],.agg [ii 2,ii 55,ii 70,.bool false,ii (-1)]],.sl .a [ii 0,ii 1,ii 2,ii 3]]
theorem kcB18:ev prog noM TT bf 300 (.call 73 [kcB18a] [])=some (.call (.ret (.bool true)) []):=by kernel_rfl
def kcB19a:PV:=.agg [ii 0,ii 60,ii 70,ii 120,ii 130,ii 180,ii 200,.sl .a [.agg [ii 0,ii 40,ii 50,.bool false,ii (-1)],.agg [ii 0,ii 20,ii 30,.bool true,ii (-1)],.agg [ii 1,ii 50,ii 60,.bool false,ii (-1)],.agg [ii 2,ii 55,ii 70,.bool false,ii (-1)]],.sl .a [ii 0,ii 1,ii 2,ii 3]]
theorem kcB19:ev prog noM TT bf 300 (.call 73 [kcB19a] [])=some (.call (.ret (.bool true)) []):=by kernel_rfl
def kcB20a:PV:=.agg [ii 0,ii 60,ii 70,ii 120,ii 130,ii 180,ii 200,.sl .a [.agg [ii 0,ii 40,ii 50,.bool false,ii (-1)],.agg [ii 0,ii 20,ii 30,.bool true,ii (-1)],.agg [ii 1,ii 50,ii 60,.bool false,ii (-1)],.agg [ii 2,ii 55,ii 70,.bool false,ii (-1)]],.sl .a [ii 0,ii 2,ii 3]]
theorem kcB20:ev prog noM TT bf 300 (.call 73 [kcB20a] [])=some (.call (.ret (.bool false)) []):=by kernel_rfl
end Go.Pv
