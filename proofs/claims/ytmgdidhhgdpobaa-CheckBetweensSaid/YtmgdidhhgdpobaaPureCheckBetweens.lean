/- CheckBetweens: for any numbers and fraction, the ends of the number of wrong logs, and the most likely one, or the error, are what the reference says. -/
import Derived.Test.YtmgdidhhgdpobaaPbets2
import Derived.Test.YtmgdidhhgdpobaaHBets
namespace Go.Proofs.Ytmgdidhhgdpobaa.Pure
set_option linter.unusedVariables false
set_option linter.unusedSimpArgs false
open Go.RowKit Go.Proofs.Ytmgdidhhgdpobaa.Pbets Go.Proofs.Ytmgdidhhgdpobaa.PrR Go.Proofs.Ytmgdidhhgdpobaa.PrW Go.Proofs.Ytmgdidhhgdpobaa.Hand Go.Proofs.YtmgdidhhgdpobaaW.PrintWords Go.Proofs.YtmgdidhhgdpobaaW.PrintLast

theorem CheckBetweens (a0 a1 a2 a3 a4 : Int) (_ : (Lit.int .i64 a0).wf = true) (_ : (Lit.int .i64 a1).wf = true) (_ : (Lit.int .i64 a2).wf = true) (_ : (Lit.int .i64 a3).wf = true) (_ : (Lit.int .i64 a4).wf = true) :
    ∃ k, peaveylaw10_CheckBetweens.f k a0 a1 a2 a3 a4 = some true := by
  refine ⟨500, ?_⟩
  unfold peaveylaw10_CheckBetweens.f
  rw [between_ref a0 a1 a2 a3 a4 500 (by omega), likely_ref a0 a1 a2 500 (by omega)]
  obtain ⟨p, hp⟩ : ∃ p, check_Between.f a0 a1 a2 a3 a4 = some p := ⟨_, rfl⟩
  obtain ⟨q, hq⟩ : ∃ q, check_Likely.f a0 a1 a2 = some q := ⟨_, rfl⟩
  simp only [hp, hq, Option.bind_some, if_true, beq_self_eq_true, Bool.and_self, peaveylaw10_Works.f]
end Go.Proofs.Ytmgdidhhgdpobaa.Pure
