/- CheckDraws: for all numbers and samples of at most 60 logs, the sample with a number, and the number of a sample, are what the reference says. -/
import Derived.Test.YtmgdidhhgdpobaaPdraws1
import Derived.Test.YtmgdidhhgdpobaaHDraws
namespace Go.Proofs.Ytmgdidhhgdpobaa.Pure
set_option linter.unusedVariables false
set_option linter.unusedSimpArgs false
open Go.RowKit Go.Proofs.Ytmgdidhhgdpobaa.Pdraws Go.Proofs.Ytmgdidhhgdpobaa.PrR Go.Proofs.Ytmgdidhhgdpobaa.PrU Go.Proofs.Ytmgdidhhgdpobaa.PrC Go.Proofs.Ytmgdidhhgdpobaa.Hand Go.Proofs.YtmgdidhhgdpobaaW.PrintWords Go.Proofs.YtmgdidhhgdpobaaW.PrintLast

theorem ints_loop (l : List Int) (hl : l.length ≤ 1000) : ∀ (m i : Nat), i + m = l.length → ∀ k, m < k → peaveylaw10_Ints.l0 k l l i = some true
  | 0, i, h, k + 1, _ => by
    have hge : ¬ (i : Int) < (l.length : Int) := by omega
    rw [peaveylaw10_Ints.l0, if_neg hge]
  | m + 1, i, h, k + 1, hk => by
    have hlt : (i : Int) < (l.length : Int) := by omega
    have h0 : (0 : Int) ≤ (i : Int) := by omega
    rw [peaveylaw10_Ints.l0, if_pos hlt, if_pos h0, if_pos hlt, if_pos rfl, wsucc i (by omega)]
    exact ints_loop l hl m (i + 1) (by omega) k (by omega)
theorem ints_is (l : List Int) (hl : l.length ≤ 1000) (k : Nat) (hk : 1001 ≤ k) : peaveylaw10_Ints.f k l l = some true := by
  unfold peaveylaw10_Ints.f
  rw [if_pos rfl]
  exact ints_loop l hl l.length 0 (by omega) k (by omega)
theorem drawFrom_len : ∀ (n : Nat) (log : Int) (left : Nat) (num : Int), (drawFrom n log left num).length ≤ n
  | 0, log, 0, num => by rw [drawFrom_none]; simp
  | 0, log, left + 1, num => by simp [drawFrom]
  | n + 1, log, 0, num => by rw [drawFrom_none]; simp
  | n + 1, log, left + 1, num => by
    rw [drawFrom]
    split
    · have := drawFrom_len n (log + 1) (left + 1) (num - binom n left); omega
    · have := drawFrom_len n (log + 1) left num; simp only [List.length_cons]; omega
theorem CheckDraws : peaveylaw10_CheckDraws.Pure := by
  intro a0 a1 a2 l3 _ _ _ _ _ _
  refine ⟨5000, ?_⟩
  unfold peaveylaw10_CheckDraws.f
  by_cases hl : (l3.length : Int) > 60
  · rw [if_pos hl]; rfl
  · rw [if_neg hl, draw_is a0 a1 a2 5000 (by omega), number_is a0 l3 (by omega) 5000 (by omega)]
    obtain ⟨p, hp⟩ : ∃ p, check_Draw.f a0 a1 a2 = some p := ⟨_, rfl⟩
    obtain ⟨q, hq⟩ : ∃ q, check_Number.f a0 l3 = some q := ⟨_, rfl⟩
    have hpl : p.1.length ≤ 1000 := by
      unfold check_Draw.f at hp
      cases h1 : outB 1 50 a0
      · have i1 := out_in h1
        have := drawFrom_len a0.toNat 0 a1.toNat a2
        rw [h1] at hp
        simp only [Bool.false_or, Option.some.injEq] at hp
        rw [← hp]
        split
        · simp
        · split
          · simp
          · simp only; omega
      · rw [h1] at hp
        simp only [Bool.true_or, if_true, Option.some.injEq] at hp
        rw [← hp]; simp
    rw [hp, hq]
    simp only [Option.bind_some]
    rw [ints_is p.1 hpl 5000 (by omega)]
    simp only [Option.bind_some, if_true, peaveylaw10_Works.f]
end Go.Proofs.Ytmgdidhhgdpobaa.Pure
