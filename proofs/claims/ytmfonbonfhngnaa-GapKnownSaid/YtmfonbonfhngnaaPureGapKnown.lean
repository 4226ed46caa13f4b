/- GapKnown: the examples of the chapter. (All is said by the walk in HKno.) -/
import Derived.Test.YtmfonbonfhngnaaHKno
namespace Go.Proofs.Ytmfonbonfhngnaa.Pure
set_option linter.unusedVariables false
set_option linter.unusedSimpArgs false
open Go.RowKit Go.Proofs.Ytmfonbonfhngnaa.Hand
theorem GapKnown : peaveylaw03_GapKnown.f = some true := rfl
end Go.Proofs.Ytmfonbonfhngnaa.Pure
