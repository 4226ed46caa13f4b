/- MarkMargin: for any valid office: with the margin as Loss all marks are apart; with one more they are not, if this is at most Strokes; so marks are apart just if Loss is not above the margin. (All is said by the walk in HMm.) -/
import Derived.Test.YtbhcchhhpmlpmaaHMm
namespace Go.Proofs.Ytbhcchhhpmlpmaa.Pure
set_option linter.unusedVariables false
set_option linter.unusedSimpArgs false
open Go.RowKit Go.Proofs.Ytbhcchhhpmlpmaa.Pmar
theorem MarkMargin (a0 a1 : Int) (l : List Int) (_ : (Lit.int .i64 a0).wf = true) (_ : (Lit.int .i64 a1).wf = true) (_ : l.length ≤ maxLen) (_ : ∀ x ∈ l, (Lit.int .i64 x).wf = true) :
    peaveylaw01_MarkMargin.f a0 a1 l = some true := rfl
end Go.Proofs.Ytbhcchhhpmlpmaa.Pure
