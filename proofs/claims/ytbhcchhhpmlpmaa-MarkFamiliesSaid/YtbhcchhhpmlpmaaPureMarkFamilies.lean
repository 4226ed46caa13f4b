/- MarkFamilies: which marks are a family, and the first one of the greatest families, are what the definitions say, or the error. (All is said in HFms.) -/
import Derived.Test.YtbhcchhhpmlpmaaHFms
namespace Go.Proofs.Ytbhcchhhpmlpmaa.Pure
set_option linter.unusedVariables false
set_option linter.unusedSimpArgs false
open Go.RowKit Go.Proofs.Ytbhcchhhpmlpmaa.Pfms
theorem MarkFamilies (a0 a1 : Int) (l marks fam : List Int) (_ : (Lit.int .i64 a0).wf = true) (_ : (Lit.int .i64 a1).wf = true) (_ : l.length ≤ maxLen) (_ : ∀ x ∈ l, (Lit.int .i64 x).wf = true)
    (_ : marks.length ≤ maxLen) (_ : ∀ x ∈ marks, (Lit.int .i64 x).wf = true) (_ : fam.length ≤ maxLen) (_ : ∀ x ∈ fam, (Lit.int .i64 x).wf = true) :
    peaveylaw01_MarkFamilies.f a0 a1 l marks fam = some true := rfl
end Go.Proofs.Ytbhcchhhpmlpmaa.Pure
