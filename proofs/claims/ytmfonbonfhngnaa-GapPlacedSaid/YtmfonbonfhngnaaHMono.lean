/- More rounds tell no other answer: the walks by hand. -/
import Derived.Test.YtmfonbonfhngnaaHWorks
import Derived.Test.YtmfonbonfhngnaaGE
namespace Go.Proofs.Ytmfonbonfhngnaa.Hand
set_option linter.unusedVariables false
set_option linter.unusedSimpArgs false
open Go.RowKit Go.Proofs.YtmfonbonfhngnaaW.PrintWords Go.Proofs.Ytmfonbonfhngnaa.PrR
theorem peaveyref03_Place.mono : ∀ a0 k, LeO (peaveyref03_Place.f k a0) (peaveyref03_Place.f (k + 1) a0) := by
  intro l k r h
  obtain ⟨e, he, h⟩ := Option.bind_eq_some_iff.1 h
  exact Option.bind_eq_some_iff.2 ⟨e, peaveyref03_CheckRow.mono l k e he, h⟩
end Go.Proofs.Ytmfonbonfhngnaa.Hand
