/- MarkNamed: for any valid office of at most 8 strokes: if strokes are named otherwise, owners, margins, and how many marks are free and how many strokes tell an owner stay. (All is said in HNmz.) -/
import Derived.Test.YtbhcchhhpmlpmaaHNmz
namespace Go.Proofs.Ytbhcchhhpmlpmaa.Pure
set_option linter.unusedVariables false
set_option linter.unusedSimpArgs false
open Go.RowKit Go.Proofs.Ytbhcchhhpmlpmaa.Hand Go.Proofs.Ytbhcchhhpmlpmaa.Pnam
theorem MarkNamed (a0 a1 : Int) (l : List Int) (a2 a3 : Int) (sw : List Int) (_ : (Lit.int .i64 a0).wf = true) (_ : (Lit.int .i64 a1).wf = true) (_ : l.length ≤ maxLen) (_ : ∀ x ∈ l, (Lit.int .i64 x).wf = true) (h2 : (Lit.int .u16 a2).wf = true) (h3 : (Lit.int .u8 a3).wf = true)
    (_ : sw.length ≤ maxLen) (hs : ∀ x ∈ sw, (Lit.int .u8 x).wf = true) :
    peaveylaw01_MarkNamed.f a0 a1 l a2 a3 sw = some true := if_pos ⟨wf_u16 h2, wf_u8 h3, fun x hx => wf_u8 (hs x hx)⟩
end Go.Proofs.Ytbhcchhhpmlpmaa.Pure
