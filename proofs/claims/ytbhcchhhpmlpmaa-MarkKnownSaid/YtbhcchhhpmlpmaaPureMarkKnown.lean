/- MarkKnown: the chapter's examples. (All is said by the walk in HKnown.) -/
import Derived.Test.YtbhcchhhpmlpmaaHKnown
namespace Go.Proofs.Ytbhcchhhpmlpmaa.Pure
set_option linter.unusedVariables false
set_option linter.unusedSimpArgs false
open Go.RowKit Go.Proofs.Ytbhcchhhpmlpmaa.Pkno
theorem MarkKnown : peaveylaw01_MarkKnown.f = some true := rfl
end Go.Proofs.Ytbhcchhhpmlpmaa.Pure
