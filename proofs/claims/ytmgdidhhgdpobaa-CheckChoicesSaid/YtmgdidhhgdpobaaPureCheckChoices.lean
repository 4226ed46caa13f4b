/- CheckChoices: for all numbers, the choices, the samples with so many found, those with at most so many, and the chance are what the reference says. -/
import Derived.Test.YtmgdidhhgdpobaaLa12
import Derived.Test.YtmgdidhhgdpobaaHRef
namespace Go.Proofs.Ytmgdidhhgdpobaa.Pure
open Go.RowKit Go.Proofs.Ytmgdidhhgdpobaa.La1 Go.Proofs.Ytmgdidhhgdpobaa.Hand Go.Proofs.YtmgdidhhgdpobaaW.PrintWords Go.Proofs.YtmgdidhhgdpobaaW.PrintLast

/-- Choices, samples, those with at most so many, and the chance are the reference's. -/
theorem CheckChoices : peaveylaw10_CheckChoices.Pure := by
  intro a0 a1 a2 a3 _ _ _ _
  obtain ⟨K, hK⟩ := chance_is a0 a1 a2 a3
  refine ⟨K + 200, ?_⟩
  unfold peaveylaw10_CheckChoices.f
  rw [choose_is a0 a2 _ (by omega), samples_is a0 a1 a2 a3 _ (by omega), atMost_is a0 a1 a2 a3 _ (by omega), hK _ (by omega)]
  obtain ⟨p, hp⟩ : ∃ p, check_Choose.f a0 a2 = some p := ⟨_, rfl⟩
  obtain ⟨q, hq⟩ : ∃ q, check_Samples.f a0 a1 a2 a3 = some q := ⟨_, rfl⟩
  obtain ⟨r, hr⟩ : ∃ r, check_AtMost.f a0 a1 a2 a3 = some r := ⟨_, rfl⟩
  obtain ⟨s, hs⟩ : ∃ s, check_Chance.f a0 a1 a2 a3 = some s := ⟨_, rfl⟩
  simp only [hp, hq, hr, hs, Option.bind_some, if_true, beq_self_eq_true, Bool.and_self, peaveylaw10_Works.f]
end Go.Proofs.Ytmgdidhhgdpobaa.Pure
