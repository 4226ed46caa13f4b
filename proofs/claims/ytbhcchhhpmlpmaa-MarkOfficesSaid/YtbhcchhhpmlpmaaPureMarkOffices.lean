/- MarkOffices: for any office and worn mark, the error of the office and the owners are what the reference says. -/
import Derived.Test.YtbhcchhhpmlpmaaPoff2
import Derived.Test.YtbhcchhhpmlpmaaMD
namespace Go.Proofs.Ytbhcchhhpmlpmaa.Pure
set_option linter.unusedVariables false
set_option linter.unusedSimpArgs false
open Go.RowKit Go.Proofs.Ytbhcchhhpmlpmaa.Poff Go.Proofs.Ytbhcchhhpmlpmaa.PrR Go.Proofs.Ytbhcchhhpmlpmaa.PrS Go.Proofs.Ytbhcchhhpmlpmaa.PrA Go.Proofs.Ytbhcchhhpmlpmaa.PrC Go.Proofs.Ytbhcchhhpmlpmaa.PrX Go.Proofs.Ytbhcchhhpmlpmaa.Hand Go.Proofs.YtbhcchhhpmlpmaaW.PrintWords Go.Proofs.YtbhcchhhpmlpmaaW.PrintLast

theorem MarkOffices (a0 a1 : Int) (l : List Int) (worn : Int) (_ : (Lit.int .i64 a0).wf = true) (_ : (Lit.int .i64 a1).wf = true) (_ : l.length ≤ maxLen) (_ : ∀ x ∈ l, (Lit.int .i64 x).wf = true) (_ : (Lit.int .i64 worn).wf = true) :
    ∃ k, peaveylaw01_MarkOffices.f k a0 a1 l worn = some true := by
  refine ⟨100, ?_⟩
  unfold peaveylaw01_MarkOffices.f
  rw [great_is, works_k 100 (by omega), Option.bind_some]
  by_cases hg : 20 < l.length
  · simp [hg]
  · obtain ⟨r, e, hr, hl⟩ := owners_some a0 a1 l worn
    rw [refOwners_is a0 a1 l worn (by omega), refOffice_is a0 a1 l (by omega), office_is a0 a1 l (by omega), hr]
    simp only [Option.bind_some, if_true]
    rw [ints_is r r (by omega) (by omega)]
    simp [hg]
end Go.Proofs.Ytbhcchhhpmlpmaa.Pure
