/- GapMosts: how many logs some pockets take at most, the fewest pockets, the lines; the turning that is returned takes as many. -/
import Derived.Test.YtmfonbonfhngnaaGmost1
import Derived.Test.YtmfonbonfhngnaaHRefM3
namespace Go.Proofs.Ytmfonbonfhngnaa.Pure
set_option linter.unusedVariables false
set_option linter.unusedSimpArgs false
open Go.RowKit Go.Proofs.Ytmfonbonfhngnaa.Gmost Go.Proofs.Ytmfonbonfhngnaa.PrA Go.Proofs.Ytmfonbonfhngnaa.PrR Go.Proofs.Ytmfonbonfhngnaa.PrL Go.Proofs.Ytmfonbonfhngnaa.PrT Go.Proofs.Ytmfonbonfhngnaa.Hand Go.Proofs.YtmfonbonfhngnaaW.PrintWords Go.Proofs.YtmfonbonfhngnaaW.PrintLast
set_option linter.unusedVariables false
set_option linter.unusedSimpArgs false

theorem mosts_bad {l : List Int} {m : Int} (ho : openE l m ≠ 0) (K : Nat) (hK : 1 ≤ K) : peaveylaw03_GapMosts.j0 K l m 0 (openE l m) [] false = some true := by
  obtain ⟨K, rfl⟩ : ∃ q, K = q + 1 := ⟨K - 1, by omega⟩
  rw [peaveylaw03_GapMosts.j0, if_neg (by decide), if_neg ho, if_pos (by simp), works_k]; rfl
theorem mosts_good {l out : List Int} {m : Int} (ho : openE l m = 0) (hp : Put l out m) (hc : cntO out = best l m.toNat) (K : Nat) (hK : 5000 ≤ K) : peaveylaw03_GapMosts.j0 K l m (best l m.toNat) 0 out false = some true := by
  obtain ⟨K, rfl⟩ : ∃ q, K = q + 1 := ⟨K - 1, by omega⟩
  rw [peaveylaw03_GapMosts.j0, if_neg (by decide), if_pos rfl, refTurning_is l m out K (by omega), put_ck ho hp, Option.bind_some]
  simp only [if_true, hc]
  rw [works_k]; rfl
theorem GapMosts : peaveylaw03_GapMosts.Pure := by
  intro l m _ _ _ _
  refine ⟨80000, ?_⟩
  unfold peaveylaw03_GapMosts.f peaveylaw03_great.f
  rw [Option.bind_some]
  by_cases h : (l.length : Int) > 40
  · rw [if_pos (decide_eq_true h), works_k]; rfl
  · have hsl : (if rowE l ≠ 0 then (([] : List Int), rowE l) else (shapeI l, 0)).1.length ≤ 1000 := by
      split
      · exact Nat.zero_le _
      · rw [shapeI_len]; have := lines_le_len l; omega
    rw [if_neg (by rw [decide_eq_true_eq]; exact h), gapMost_is l m 80000 (by omega), Option.bind_some, refMost_is l m 80000 (by omega), Option.bind_some, gap_Fewest.f, Option.bind_some, refFewest_is l 80000 (by omega), Option.bind_some, gapShape_is l 80000 (by omega), Option.bind_some, refShape_is l 80000 (by omega), Option.bind_some]
    by_cases ho : openE l m = 0
    · obtain ⟨g1, g2, g3, g4, g5⟩ := open_zero ho
      obtain ⟨out, t1, t2, t3⟩ := turning_is g1 g3 g4 80000 (by omega)
      rw [t1, Option.bind_some, if_pos rfl, if_pos rfl, if_pos rfl, if_pos rfl, ints_eq _ _ hsl 80000 (by omega), Option.bind_some, if_pos (decide_eq_true rfl), if_pos rfl, if_neg (show ¬ openE l m ≠ 0 by omega)]
      exact mosts_good ho t2 t3 80000 (by omega)
    · have ht : gap_Turning.f 80000 l m = some ([], openE l m) := by
        unfold gap_Turning.f; rw [if_pos ho]
      rw [ht, Option.bind_some, if_pos rfl, if_pos rfl, if_pos rfl, if_pos rfl, ints_eq _ _ hsl 80000 (by omega), Option.bind_some, if_pos (decide_eq_true rfl), if_pos rfl, if_pos ho]
      simp only [bne_self_eq_false]
      exact mosts_bad ho 80000 (by omega)
end Go.Proofs.Ytmfonbonfhngnaa.Pure
