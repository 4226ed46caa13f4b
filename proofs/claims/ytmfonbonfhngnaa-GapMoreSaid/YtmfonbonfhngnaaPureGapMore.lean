/- GapMore: with a log more, at the end, or a pocket more. -/
import Derived.Test.YtmfonbonfhngnaaGmore1
import Derived.Test.YtmfonbonfhngnaaGF
namespace Go.Proofs.Ytmfonbonfhngnaa.Pure
set_option linter.unusedVariables false
set_option linter.unusedSimpArgs false
open Go.RowKit Go.Proofs.Ytmfonbonfhngnaa.Gmore Go.Proofs.Ytmfonbonfhngnaa.PrA Go.Proofs.Ytmfonbonfhngnaa.PrR Go.Proofs.Ytmfonbonfhngnaa.PrL Go.Proofs.Ytmfonbonfhngnaa.Hand Go.Proofs.YtmfonbonfhngnaaW.PrintWords Go.Proofs.YtmfonbonfhngnaaW.PrintLast
set_option linter.unusedVariables false
set_option linter.unusedSimpArgs false

theorem GapMore : peaveylaw03_GapMore.Pure := by
  intro l a _ _ _ ha
  have ha' := wf_u8 ha
  refine ⟨70001, ?_⟩
  unfold peaveylaw03_GapMore.f
  rw [fine_is l 70001 (by omega)]
  have triv : peaveylaw03_GapMore.j0 70001 l a true = some true := by
    rw [peaveylaw03_GapMore.j0, if_pos rfl, works_k]; rfl
  by_cases h : rowE l = 0
  · simp only [h, decide_true, Option.bind_some, if_true]
    obtain ⟨hl, hp⟩ := row_zero h
    by_cases he : (l.length : Int) = 0
    · rw [show ((l.length : Int) == 0) = true from beq_iff_eq.2 he]; exact triv
    · rw [show ((l.length : Int) == 0) = false from beq_eq_false_iff_ne.2 he]
      obtain ⟨m, hm, hm2⟩ : ∃ m : Nat, Int.tmod (wrap64 a) 30 = (m : Int) ∧ m ≤ 29 := by
        refine ⟨(Int.tmod a 30).toNat, ?_, ?_⟩
        · rw [IntWalk.wrap64_in _ ⟨by omega, by omega⟩, Int.tmod_eq_emod_of_nonneg ha'.1]; omega
        · rw [Int.tmod_eq_emod_of_nonneg ha'.1]; omega
      have hx : l = l.take (l.length - 1) ++ [l[l.length - 1]'(by omega)] := by
        have := List.take_succ_eq_append_getElem (l := l) (i := l.length - 1) (by omega)
        rw [show l.length - 1 + 1 = l.length by omega, List.take_length] at this
        exact this
      have hrx : rowE (l.take (l.length - 1)) = 0 := row_of (by rw [List.length_take]; omega) fun x hx => hp x (List.mem_of_mem_take hx)
      have hlx := (row_zero hrx).1
      have b1 := best_snoc (l.take (l.length - 1)) (l[l.length - 1]'(by omega)) m
      have b2 := lines_snoc (l.take (l.length - 1)) (l[l.length - 1]'(by omega))
      rw [← hx] at b1 b2
      have b3 := best_mono l (j := m) (k := m + 1) (by omega)
      have b4 := best_le l (m + 1)
      have b5 := lines_le_len l
      rw [peaveylaw03_GapMore.j0, if_neg (by decide), IntWalk.wrap64_in ((l.length : Int) - 1) ⟨by omega, by omega⟩, if_pos (by omega), if_pos (by omega), hm, show ((l.length : Int) - 1).toNat = l.length - 1 by omega, wrap_succ (by omega)]
      rw [most_is hrx (by omega) (by omega) 70000 (by omega), most_is h (by omega) (by omega) 70000 (by omega), most_is h (by omega) (by omega) 70000 (by omega)]
      simp only [Option.bind_some, gap_Fewest.f, fewV_is hrx hlx, fewV_is h hl, if_true, Int.toNat_natCast]
      rw [if_pos (by omega), wrap_succ (by omega), if_pos (by omega), if_pos (by omega), if_pos (by omega), wrap_succ (by omega), if_pos (by omega), works_k]; rfl
  · simp only [h, decide_false, Option.bind_some, Bool.false_eq_true, if_false]
    exact triv
end Go.Proofs.Ytmfonbonfhngnaa.Pure
