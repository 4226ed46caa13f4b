/- MarkTolds: for any office and owner, after how many losses an owner is told, and the fewest strokes that tell it, are what the reference says. -/
import Derived.Test.YtbhcchhhpmlpmaaPtol1
import Derived.Test.YtbhcchhhpmlpmaaHRefK
namespace Go.Proofs.Ytbhcchhhpmlpmaa.Pure
set_option linter.unusedVariables false
set_option linter.unusedSimpArgs false
open Go.RowKit Go.Proofs.Ytbhcchhhpmlpmaa.Ptol Go.Proofs.Ytbhcchhhpmlpmaa.PrR Go.Proofs.Ytbhcchhhpmlpmaa.PrU Go.Proofs.Ytbhcchhhpmlpmaa.PrA Go.Proofs.Ytbhcchhhpmlpmaa.PrC Go.Proofs.Ytbhcchhhpmlpmaa.Hand Go.Proofs.YtbhcchhhpmlpmaaW.PrintWords Go.Proofs.YtbhcchhhpmlpmaaW.PrintLast

theorem MarkTolds (a0 a1 : Int) (l : List Int) (x : Int) (_ : (Lit.int .i64 a0).wf = true) (_ : (Lit.int .i64 a1).wf = true) (_ : l.length ≤ maxLen) (_ : ∀ x ∈ l, (Lit.int .i64 x).wf = true) (_ : (Lit.int .i64 x).wf = true) :
    ∃ k, peaveylaw01_MarkTolds.f k a0 a1 l x = some true := by
  refine ⟨23000, ?_⟩
  unfold peaveylaw01_MarkTolds.f
  rw [great_is, works_k 23000 (by omega), Option.bind_some]
  by_cases hg : 20 < l.length
  · simp [hg]
  · obtain ⟨p, hp⟩ : ∃ p, mark_Told.f a0 a1 l x = some p := ⟨_, rfl⟩
    obtain ⟨q, hq⟩ : ∃ q, mark_Keep.f a0 a1 l x = some q := ⟨_, rfl⟩
    rw [refTold_is a0 a1 l x (by omega), refKeep_is a0 a1 l x (by omega), hp, hq]
    simp [hg]
end Go.Proofs.Ytbhcchhhpmlpmaa.Pure
