/- The examples' values, by the kernel. -/
import Derived.Test.YtmfonbonfhngnaaGD
import Derived.Test.YtmfonbonfhngnaaPrR1
import Derived.Test.YtmfonbonfhngnaaPrR2
import Derived.Test.YtmfonbonfhngnaaPrR3
namespace Go.Proofs.Ytmfonbonfhngnaa.Hand
set_option linter.unusedVariables false
set_option linter.unusedSimpArgs false
open Go.RowKit Go.Proofs.Ytmfonbonfhngnaa.PrR
set_option maxRecDepth 1000000
theorem v1 : gap_CheckTurning.f [5, 2, 8, 1, 9, 3, 7, 4, 6] 2 [-1, 0, 0, 1, 0, 1, -1, 1, 1] = some (7, 0) := by decide +kernel
theorem v2 : gap_CheckTurning.f [5, 2, 8, 1, 9, 3, 7, 4, 6] 2 [0, 0, 0, 1, 0, 1, -1, 1, 1] = some (0, 16) := by decide +kernel
theorem v3 : gap_Most.f 100 [5, 2, 8, 1, 9, 3, 7, 4, 6] 2 = some (7, 0) := by decide +kernel
theorem v4 : gap_Fewest.f [5, 2, 8, 1, 9, 3, 7, 4, 6] = some (3, 0) := by decide +kernel
theorem v5 : gap_Place.f [5, 2, 8, 1, 9, 3, 7, 4, 6] = some ([0, 1, 0, 2, 0, 1, 1, 2, 2], 0) := by decide +kernel
theorem v6 : gap_Run.f [5, 2, 8, 1, 9, 3, 7, 4, 6] = some ([0, 1, 3], 0) := by decide +kernel
theorem v7 : gap_CheckRuns.f 100 [5, 2, 8, 1, 9, 3, 7, 4, 6] 2 [[0, 1, 3], [2, 6, 7], [4, 5], [8]] = some (7, 0) := by decide +kernel
theorem v8 : gap_CheckRuns.f 100 [5, 2, 8, 1, 9, 3, 7, 4, 6] 2 [[0, 1, 3], [2, 6, 7], [4, 5]] = some (0, 14) := by decide +kernel
theorem v13 : peaveyref03_CheckTurning.f 100 [5, 2, 8, 1, 9, 3, 7, 4, 6] 2 [0, 1, 0, -1, 0, 1, -1, 1, 1] = some (7, 0) := by decide +kernel
theorem v14 : peaveyref03_CheckRuns.f 100 [5, 2, 8, 1, 9, 3, 7, 4, 6] 2 [[2], [5], [7], [0, 1, 3], [4, 6, 8]] = some (7, 0) := by decide +kernel
theorem v10 : gap_Shape.f 100 [2, 2, 1, 2] = some ([3, 1], 0) := by decide +kernel
theorem v11 : gap_Turning.f 100 [5, 2, 8, 1, 9, 3, 7, 4, 6] 2 = some ([0, 1, 0, -1, 0, 1, -1, 1, 1], 0) := by decide +kernel
theorem v12 : gap_Runs.f 100 [5, 2, 8, 1, 9, 3, 7, 4, 6] 2 = some ([[2], [5], [7], [0, 1, 3], [4, 6, 8]], 0) := by decide +kernel
theorem v9 : gap_Shape.f 100 [5, 2, 8, 1, 9, 3, 7, 4, 6] = some ([4, 3, 2], 0) := by decide +kernel
end Go.Proofs.Ytmfonbonfhngnaa.Hand
