/- GapPlaced: Place's turning is right and takes all; each log that is not in the first pocket came after one in the pocket before that is wanted after it. -/
import Derived.Test.YtmfonbonfhngnaaGplcd1
import Derived.Test.YtmfonbonfhngnaaGF
namespace Go.Proofs.Ytmfonbonfhngnaa.Pure
set_option linter.unusedVariables false
set_option linter.unusedSimpArgs false
open Go.RowKit Go.Proofs.Ytmfonbonfhngnaa.Gplcd Go.Proofs.Ytmfonbonfhngnaa.PrA Go.Proofs.Ytmfonbonfhngnaa.PrR Go.Proofs.Ytmfonbonfhngnaa.PrL Go.Proofs.Ytmfonbonfhngnaa.Hand Go.Proofs.YtmfonbonfhngnaaW.PrintWords Go.Proofs.YtmfonbonfhngnaaW.PrintLast
set_option linter.unusedVariables false
set_option linter.unusedSimpArgs false

theorem placed_in {l last p : List Int} (h : PlI l l.length last p) (hl : l.length ≤ 30) (f top : Int) {i : Nat} (hi : i < l.length) (K : Nat) : ∀ (e j : Nat) (fl : Bool), j + e = i → (fl = true ∨ ∃ k, j ≤ k ∧ k < i ∧ rd p (k : Nat) = rd p (i : Nat) - 1 ∧ rd l (i : Nat) < rd l (k : Nat)) →
    peaveylaw03_GapPlaced.l1 (K + e + 1) l p f top i fl j = peaveylaw03_GapPlaced.l0 K l p f (if top < rd p (i : Nat) then rd p (i : Nat) else top) (i + 1 : Nat) := by
  have hlen := h.len
  have hpi := h.lt i hi
  have hll := h.lines hl
  have hln := lines_le_len l
  have hw : wrap64 (rd p (i : Nat) - 1) = rd p (i : Nat) - 1 := IntWalk.wrap64_in _ ⟨by omega, by omega⟩
  intro e
  induction e with
  | zero =>
    intro j fl hj hg
    have hfl : fl = true := by
      rcases hg with hg | ⟨k, h1, h2, _⟩
      · exact hg
      · exfalso; clear hw; omega
    clear hw
    rw [show K + 0 + 1 = K + 1 from rfl, peaveylaw03_GapPlaced.l1, if_neg (by omega), if_pos hfl, if_pos (by omega), if_pos (by omega), wrap_succ (by omega)]
    rfl
  | succ e ih =>
    intro j fl hj hg
    rw [show K + (e + 1) + 1 = (K + e + 1) + 1 by clear hw; omega, peaveylaw03_GapPlaced.l1, if_pos (by clear hw; omega)]
    by_cases hfl : fl = true
    · rw [if_pos hfl, wrap_succ (by clear hw; omega)]
      exact ih (j + 1) true (by clear hw; omega) (.inl rfl)
    · rw [if_neg hfl, if_pos (by clear hw; omega), if_pos (by clear hw; omega), if_pos (by clear hw; omega), if_pos (by clear hw; omega), hw]
      have hg' : ∃ k, j ≤ k ∧ k < i ∧ rd p (k : Nat) = rd p (i : Nat) - 1 ∧ rd l (i : Nat) < rd l (k : Nat) := by
        rcases hg with hg | hg
        · exact absurd hg hfl
        · exact hg
      clear hw
      obtain ⟨k, h1, h2, h3, h4⟩ := hg'
      by_cases c : rd p (j : Nat) = rd p (i : Nat) - 1
      · rw [if_pos c, if_pos (by omega), if_pos (by omega), wrap_succ (by omega)]
        refine ih (j + 1) _ (by omega) ?_
        by_cases ek : k = j
        · subst ek; left; simp; omega
        · exact .inr ⟨k, by omega, h2, h3, h4⟩
      · rw [if_neg c, wrap_succ (by omega)]
        refine ih (j + 1) _ (by omega) (.inr ⟨k, ?_, h2, h3, h4⟩)
        by_cases ek : k = j
        · subst ek; exact absurd h3 c
        · omega
theorem placed_go {l last p : List Int} (h : PlI l l.length last p) (hl : l.length ≤ 30) (d : Nat) : ∀ (i : Nat) (top : Int) (K : Nat), i + d = l.length → d * 40 < K → (∀ j, j < i → rd p (j : Nat) ≤ top) → (top = -1 ∨ ∃ j, j < i ∧ top = rd p (j : Nat)) → (i = 0 → top = -1) → peaveylaw03_GapPlaced.l0 K l p (lines l) top i = some true := by
  have hlen := h.len
  have hll := h.lines hl
  have hln := lines_le_len l
  induction d with
  | zero =>
    intro i top K hi hK h1 h2 h3
    obtain ⟨K, rfl⟩ : ∃ q, K = q + 1 := ⟨K - 1, by omega⟩
    have : top = (lines l : Int) - 1 := by
      by_cases e : lines l = 0
      · rcases h2 with h2 | ⟨j, h2, h4⟩
        · omega
        · have := h.lt j (by omega); omega
      · obtain ⟨⟨j, g1, g2, _⟩, _⟩ := h.last (lines l - 1) (by omega)
        have := h1 j (by omega)
        rcases h2 with h2 | ⟨j', h2, h4⟩
        · omega
        · have := h.lt j' (by omega); omega
    rw [peaveylaw03_GapPlaced.l0, if_neg (by omega), IntWalk.wrap64_in _ ⟨by omega, by omega⟩, if_pos this, works_k]; rfl
  | succ d ih =>
    intro i top K hi hK h1 h2 h3
    have hlt : i < l.length := by omega
    obtain ⟨K, rfl⟩ : ∃ q, K = q + i + 2 := ⟨K - i - 2, by omega⟩
    rw [show K + i + 2 = (K + i + 1) + 1 from rfl, peaveylaw03_GapPlaced.l0, if_pos (by omega), if_pos (by omega)]
    have := placed_in h hl (lines l) top hlt K i 0 (rd p (i : Nat) == 0) (by omega) (by
      rcases h.back i hlt with g | ⟨k, g1, g2, g3⟩
      · left; rw [g]; rfl
      · exact .inr ⟨k, Nat.zero_le _, g1, g2, g3⟩)
    rw [show ((0 : Int)) = ((0 : Nat) : Int) from rfl] at this ⊢
    rw [this]
    refine ih (i + 1) _ K (by omega) (by omega) (fun j hj => ?_) ?_ (fun e => by omega)
    · by_cases e : j = i
      · subst e; split <;> omega
      · have := h1 j (by omega)
        split <;> omega
    · split
      · exact .inr ⟨i, by omega, rfl⟩
      · rename_i hc
        rcases h2 with h2 | ⟨j, h2, h4⟩
        · have := h.lt i hlt; omega
        · exact .inr ⟨j, by omega, h4⟩
theorem GapPlaced : peaveylaw03_GapPlaced.Pure := by
  intro l _ _ _
  refine ⟨5005, ?_⟩
  unfold peaveylaw03_GapPlaced.f
  rw [fine_is l 5005 (by omega)]
  by_cases h : rowE l = 0
  · obtain ⟨hl, hp⟩ := row_zero h
    obtain ⟨last, hP⟩ := place_is l
    have hll := hP.lines hl
    have hln := lines_le_len l
    have hck := put_ck (m := (lines l : Int)) (open_fine h (by omega) (by omega)) (by rw [← hll]; exact hP.put)
    rw [cnt_all hP.len (fun i hi => (hP.lt i hi).1)] at hck
    simp only [h, decide_true, Option.bind_some, if_true, gap_Place.f, placeV, ne_eq, not_true_eq_false, if_false, gap_Fewest.f, fewV_is h hl]
    rw [if_neg (by omega), show decide (((lines l : Nat) : Int) > 30) = false from decide_eq_false (by omega)]
    rw [peaveylaw03_GapPlaced.j0, if_neg (by decide), gap_CheckTurning.f, refTurning_is _ _ _ _ (by omega), hck]
    simp only [Option.bind_some, if_true]
    rw [peaveylaw03_GapPlaced.j1, if_neg (by simp)]
    exact placed_go hP hl l.length 0 (-1) _ (by omega) (by omega) (fun j hj => absurd hj (Nat.not_lt_zero _)) (.inl rfl) (fun _ => rfl)
  · simp [h, works_k]
end Go.Proofs.Ytmfonbonfhngnaa.Pure
