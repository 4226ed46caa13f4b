/- GapBounds: the bound of runs; those that are returned part the row, and their bound is how many logs are taken at most. -/
import Derived.Test.YtmfonbonfhngnaaGboun1
import Derived.Test.YtmfonbonfhngnaaHRefM3
import Derived.Test.YtmfonbonfhngnaaGG
namespace Go.Proofs.Ytmfonbonfhngnaa.Pure
set_option linter.unusedVariables false
set_option linter.unusedSimpArgs false
open Go.RowKit Go.Proofs.Ytmfonbonfhngnaa.Gboun Go.Proofs.Ytmfonbonfhngnaa.PrA Go.Proofs.Ytmfonbonfhngnaa.PrR Go.Proofs.Ytmfonbonfhngnaa.PrL Go.Proofs.Ytmfonbonfhngnaa.PrT Go.Proofs.Ytmfonbonfhngnaa.Hand Go.Proofs.YtmfonbonfhngnaaW.PrintWords Go.Proofs.YtmfonbonfhngnaaW.PrintLast
set_option linter.unusedVariables false
set_option linter.unusedSimpArgs false

theorem wide_go (xs : List (List Int)) (hl : xs.length ≤ 40) (d : Nat) : ∀ (i k : Nat), i + d = xs.length → d < k → ∃ b, peaveylaw03_wide.l0 k xs i = some b ∧ (b = false → ∀ j (h : j < xs.length), i ≤ j → xs[j].length ≤ 40) := by
  induction d with
  | zero =>
    intro i k hi hk
    obtain ⟨k, rfl⟩ : ∃ q, k = q + 1 := ⟨k - 1, by omega⟩
    exact ⟨false, by rw [peaveylaw03_wide.l0, if_neg (by omega)], fun _ j h hj => by omega⟩
  | succ d ih =>
    intro i k hi hk
    obtain ⟨k, rfl⟩ : ∃ q, k = q + 1 := ⟨k - 1, by omega⟩
    have hlt : i < xs.length := by omega
    have hg : PrL.rd_L1 xs (i : Nat) = xs[i] := by simp [PrL.rd_L1, hlt]
    rw [peaveylaw03_wide.l0, if_pos (by omega), if_pos (by omega), hg]
    by_cases h : (xs[i].length : Int) > 40
    · exact ⟨true, by rw [if_pos h], fun e => absurd e (by decide)⟩
    · rw [if_neg h, wrap_succ (by omega)]
      obtain ⟨b, h1, h2⟩ := ih (i + 1) k (by omega) (by omega)
      refine ⟨b, h1, fun e j hj hij => ?_⟩
      by_cases ej : j = i
      · subst ej; omega
      · exact h2 e j hj (by omega)
theorem wide_is (xs : List (List Int)) (k : Nat) (hk : 41 ≤ k) : ∃ b, peaveylaw03_wide.f k xs = some b ∧ (b = false → ∀ x ∈ xs, x.length ≤ 40) := by
  unfold peaveylaw03_wide.f
  by_cases h : (xs.length : Int) > 40
  · exact ⟨true, by rw [if_pos h], fun e => absurd e (by decide)⟩
  · rw [if_neg h]
    obtain ⟨b, h1, h2⟩ := wide_go xs (by omega) xs.length 0 k (by omega) (by omega)
    refine ⟨b, h1, fun e x hx => ?_⟩
    obtain ⟨j, hj, rfl⟩ := List.getElem_of_mem hx
    exact h2 e j hj (by omega)
theorem bounds_j0 {l : List Int} {m : Int} {xs : List (List Int)} (hx : ∀ x ∈ xs, x.length ≤ 40) (K : Nat) (hK : 70002 ≤ K) : peaveylaw03_GapBounds.j0 K l m xs false = some true := by
  obtain ⟨K, rfl⟩ : ∃ q, K = q + 2 := ⟨K - 2, by omega⟩
  rw [show K + 2 = (K + 1) + 1 from rfl, peaveylaw03_GapBounds.j0, if_neg (by decide), gapRuns_ck l m xs (fun x h => by have := hx x h; omega) (K + 1) (by omega), Option.bind_some, refRuns_ck l m xs (fun x h => by have := hx x h; omega) (K + 1) (by omega), Option.bind_some]
  by_cases ho : openE l m = 0
  · obtain ⟨g1, g2, g3, g4, g5⟩ := open_zero ho
    obtain ⟨R, r1, r2, r3, r4, r5⟩ := runs_is g1 g3 g4 (K + 1) (by omega)
    rw [r1, Option.bind_some, asked_is l m (K + 1) (by omega), Option.bind_some, ho, if_pos rfl, if_pos rfl]
    rw [show (((R, (0 : Int)).2) != 0) = false from rfl, peaveylaw03_GapBounds.j1, if_neg (by decide), if_pos rfl, refRuns_ck l m R (fun x h => by have := r5 x h; omega) K (by omega), parts_ckr ho r3 r2, Option.bind_some]
    simp only [if_true]
    rw [mostOf_is g2 g3 K (by omega), Option.bind_some, if_pos r4, works_k]; rfl
  · have hr : gap_Runs.f (K + 1) l m = some ([], openE l m) := by
      unfold gap_Runs.f; rw [if_pos ho]
    rw [hr, Option.bind_some, asked_is l m (K + 1) (by omega), Option.bind_some, if_pos rfl, if_pos rfl]
    simp only [bne_self_eq_false]
    rw [peaveylaw03_GapBounds.j1, if_neg (by decide), if_neg ho, if_pos (by simp), works_k]; rfl
theorem bounds_f (l : List Int) (m : Int) (xs : List (List Int)) : peaveylaw03_GapBounds.f 80000 l m xs = some true := by
  have triv : peaveylaw03_GapBounds.j0 80000 l m xs true = some true := by
    rw [peaveylaw03_GapBounds.j0, if_pos rfl, works_k]; rfl
  unfold peaveylaw03_GapBounds.f peaveylaw03_great.f
  rw [Option.bind_some]
  by_cases h : (l.length : Int) > 40
  · rw [if_pos (decide_eq_true h)]; exact triv
  · rw [if_neg (by rw [decide_eq_true_eq]; exact h)]
    obtain ⟨b, h1, h2⟩ := wide_is xs 80000 (by omega)
    rw [h1, Option.bind_some]
    cases b
    · exact bounds_j0 (h2 rfl) 80000 (by omega)
    · exact triv
end Go.Proofs.Ytmfonbonfhngnaa.Pure
