/- MarkFamily: no given family has more marks than the one that is returned, nor as many before it; one mark more that is asked for; all together are apart. (All is said in HMfz.) -/
import Derived.Test.YtbhcchhhpmlpmaaMG
namespace Go.Proofs.Ytbhcchhhpmlpmaa.Pure
set_option linter.unusedVariables false
set_option linter.unusedSimpArgs false
open Go.RowKit Go.Proofs.Ytbhcchhhpmlpmaa.Hand Go.Proofs.Ytbhcchhhpmlpmaa.Pfam
theorem MarkFamily (a0 a1 : Int) (l by_ : List Int) (a2 : Int) (_ : (Lit.int .i64 a0).wf = true) (_ : (Lit.int .i64 a1).wf = true) (_ : l.length ≤ maxLen) (_ : ∀ x ∈ l, (Lit.int .i64 x).wf = true)
    (_ : by_.length ≤ maxLen) (hb : ∀ x ∈ by_, (Lit.int .u16 x).wf = true) (h2 : (Lit.int .u16 a2).wf = true) :
    peaveylaw01_MarkFamily.f a0 a1 l by_ a2 = some true := if_pos ⟨fun x hx => wf_u16 (hb x hx), wf_u16 h2⟩
end Go.Proofs.Ytbhcchhhpmlpmaa.Pure
