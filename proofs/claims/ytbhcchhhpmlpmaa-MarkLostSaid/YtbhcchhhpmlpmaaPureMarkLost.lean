/- MarkLost: for any valid office of at most 8 strokes: with a greater Loss no worn mark can be that of fewer owners, and no mark is free that was not; the margin stays. (All is said in HLst.) -/
import Derived.Test.YtbhcchhhpmlpmaaHLst
namespace Go.Proofs.Ytbhcchhhpmlpmaa.Pure
set_option linter.unusedVariables false
set_option linter.unusedSimpArgs false
open Go.RowKit Go.Proofs.Ytbhcchhhpmlpmaa.Hand Go.Proofs.Ytbhcchhhpmlpmaa.Plst
theorem MarkLost (a0 a1 : Int) (l : List Int) (a2 a3 : Int) (_ : (Lit.int .i64 a0).wf = true) (_ : (Lit.int .i64 a1).wf = true) (_ : l.length ≤ maxLen) (_ : ∀ x ∈ l, (Lit.int .i64 x).wf = true) (h2 : (Lit.int .u16 a2).wf = true) (h3 : (Lit.int .u8 a3).wf = true) :
    peaveylaw01_MarkLost.f a0 a1 l a2 a3 = some true := if_pos ⟨wf_u16 h2, wf_u8 h3⟩
end Go.Proofs.Ytbhcchhhpmlpmaa.Pure
