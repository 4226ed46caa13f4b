/- Plain laws of samples and their numbers: the sample with a number has this number; a sample is that with its number; a greater number comes later. -/
import Derived.Test.YtmgdidhhgdpobaaHDraws
namespace Go.Proofs.Ytmgdidhhgdpobaa.Hand
set_option linter.unusedVariables false
set_option linter.unusedSimpArgs false
open Go.RowKit Go.Proofs.YtmgdidhhgdpobaaW.PrintWords Go.Proofs.YtmgdidhhgdpobaaW.PrintLast

theorem out_of {lo hi x : Int} (h : lo ≤ x ∧ x ≤ hi) : outB lo hi x = false := by rw [out_iff, Bool.not_eq_false']; exact decide_eq_true h
theorem okFrom_le (a : Int) : ∀ (l : List Int) {n m : Int}, m ≤ n → okFrom a n l = true → okFrom a m l = true
  | [], _, _, _, _ => rfl
  | x :: l, n, m, hm, h => by
    simp only [okFrom, Bool.and_eq_true, Bool.not_eq_true'] at h ⊢
    have h1 := out_in h.1
    exact ⟨out_of (by omega), h.2⟩
theorem okFrom_up (a : Int) {l : List Int} {x n m : Int} (h : okFrom a n (x :: l) = true) (hx : m ≤ x) : okFrom a m (x :: l) = true := by
  simp only [okFrom, Bool.and_eq_true, Bool.not_eq_true'] at h ⊢
  have h1 := out_in h.1
  exact ⟨out_of (by omega), h.2⟩
/-- the sample with a number -/
theorem draw_num (a : Nat) : ∀ (n log left : Nat) (num : Int), log + n = a → left ≤ n → 0 ≤ num → num < (binom n left : Int) →
    (drawFrom n log left num).length = left ∧ okFrom a log (drawFrom n log left num) = true ∧ (binom n left : Int) - 1 - afterN a (drawFrom n log left num) = num
  | n, log, 0, num, h1, h2, h3, h4 => by
    rw [drawFrom_none]
    rw [binom_zero] at h4 ⊢
    exact ⟨rfl, rfl, by simp only [afterN]; omega⟩
  | 0, log, left + 1, num, h1, h2, h3, h4 => by omega
  | n + 1, log, left + 1, num, h1, h2, h3, h4 => by
    rw [binom_succ] at h4 ⊢
    by_cases hn : num < (binom n left : Int)
    · rw [drawFrom_take (by omega) (by rw [Nat.add_sub_cancel]; exact hn), Nat.add_sub_cancel]
      obtain ⟨i1, i2, i3⟩ := draw_num a n (log + 1) left num (by omega) (by omega) h3 hn
      rw [show ((log + 1 : Nat) : Int) = (log : Int) + 1 by omega] at i1 i2 i3
      refine ⟨by rw [List.length_cons, i1], ?_, ?_⟩
      · simp only [okFrom, Bool.and_eq_true, Bool.not_eq_true']
        exact ⟨out_of (by omega), i2⟩
      · simp only [afterN, i1]
        rw [show ((a : Int) - (log : Int) - 1).toNat = n by omega]
        omega
    · rw [drawFrom_skip (by omega) (by rw [Nat.add_sub_cancel]; omega), Nat.add_sub_cancel]
      have hle : left + 1 ≤ n := by
        apply Decidable.byContradiction
        intro hc
        rw [binom_gt n (left + 1) (by omega)] at h4
        omega
      obtain ⟨i1, i2, i3⟩ := draw_num a n (log + 1) (left + 1) (num - (binom n left : Int)) (by omega) hle (by omega) (by omega)
      rw [show ((log + 1 : Nat) : Int) = (log : Int) + 1 by omega] at i1 i2 i3
      exact ⟨i1, okFrom_le a _ (by omega) i2, by omega⟩
/-- a sample is the one with its number -/
theorem draw_back (a : Nat) : ∀ (n log : Nat) (l : List Int), log + n = a → okFrom a log l = true → drawFrom n log l.length ((binom n l.length : Int) - 1 - afterN a l) = l
  | n, log, [], _, _ => drawFrom_none _ _ _
  | 0, log, x :: l, h1, h => by
    simp only [okFrom, Bool.and_eq_true, Bool.not_eq_true'] at h
    have := out_in h.1
    omega
  | n + 1, log, x :: l, h1, h => by
    have h' := h
    simp only [okFrom, Bool.and_eq_true, Bool.not_eq_true'] at h'
    have hx := out_in h'.1
    rw [List.length_cons, binom_succ]
    by_cases e : x = (log : Int)
    · subst e
      have ha := after_le (a : Int) l ((log : Int) + 1) (by omega) h'.2
      have ih := draw_back a n (log + 1) l (by omega) (by rw [show ((log + 1 : Nat) : Int) = (log : Int) + 1 by omega]; exact h'.2)
      rw [show ((a : Int) - ((log : Int) + 1)).toNat = n by omega] at ha
      simp only [afterN]
      rw [show ((a : Int) - (log : Int) - 1).toNat = n by omega]
      rw [drawFrom_take (by omega) (by rw [Nat.add_sub_cancel]; omega), Nat.add_sub_cancel]
      rw [show ((binom n l.length + binom n (l.length + 1) : Nat) : Int) - 1 - ((binom n (l.length + 1) : Int) + afterN a l) = (binom n l.length : Int) - 1 - afterN a l by omega]
      rw [show ((log + 1 : Nat) : Int) = (log : Int) + 1 by omega] at ih
      rw [ih]
    · have hup := okFrom_up (a : Int) (m := (log : Int) + 1) h (by omega)
      have ha := after_le (a : Int) (x :: l) ((log : Int) + 1) (by omega) hup
      have ih := draw_back a n (log + 1) (x :: l) (by omega) (by rw [show ((log + 1 : Nat) : Int) = (log : Int) + 1 by omega]; exact hup)
      rw [show ((a : Int) - ((log : Int) + 1)).toNat = n by omega, List.length_cons] at ha
      rw [List.length_cons, show ((log + 1 : Nat) : Int) = (log : Int) + 1 by omega] at ih
      rw [drawFrom_skip (by omega) (by rw [Nat.add_sub_cancel]; omega), Nat.add_sub_cancel]
      rw [show ((binom n l.length + binom n (l.length + 1) : Nat) : Int) - 1 - afterN a (x :: l) - (binom n l.length : Int) = (binom n (l.length + 1) : Int) - 1 - afterN a (x :: l) by omega]
      exact ih
/-- a list comes before another one of the same length -/
def befL : List Int → List Int → Prop
  | x :: l, y :: m => x < y ∨ (x = y ∧ befL l m)
  | _, _ => False
theorem draw_bef (a : Nat) : ∀ (n log left : Nat) (i j : Int), log + n = a → left ≤ n → 0 ≤ i → i < j → j < (binom n left : Int) → befL (drawFrom n log left i) (drawFrom n log left j)
  | n, log, 0, i, j, h1, h2, h3, h4, h5 => by rw [binom_zero] at h5; omega
  | 0, log, left + 1, i, j, h1, h2, h3, h4, h5 => by omega
  | n + 1, log, left + 1, i, j, h1, h2, h3, h4, h5 => by
    rw [binom_succ] at h5
    by_cases hj : j < (binom n left : Int)
    · rw [drawFrom_take (num := i) (by omega) (by rw [Nat.add_sub_cancel]; omega), drawFrom_take (num := j) (by omega) (by rw [Nat.add_sub_cancel]; exact hj), Nat.add_sub_cancel]
      have ih := draw_bef a n (log + 1) left i j (by omega) (by omega) h3 h4 hj
      rw [show ((log + 1 : Nat) : Int) = (log : Int) + 1 by omega] at ih
      exact .inr ⟨rfl, ih⟩
    · have hle : left + 1 ≤ n := by
        apply Decidable.byContradiction
        intro hc
        rw [binom_gt n (left + 1) (by omega)] at h5
        omega
      rw [drawFrom_skip (num := j) (by omega) (by rw [Nat.add_sub_cancel]; omega), Nat.add_sub_cancel]
      by_cases hi : i < (binom n left : Int)
      · rw [drawFrom_take (by omega) (by rw [Nat.add_sub_cancel]; exact hi), Nat.add_sub_cancel]
        obtain ⟨i1, i2, _⟩ := draw_num a n (log + 1) (left + 1) (j - (binom n left : Int)) (by omega) hle (by omega) (by omega)
        rw [show ((log + 1 : Nat) : Int) = (log : Int) + 1 by omega] at i1 i2
        generalize drawFrom n ((log : Int) + 1) (left + 1) (j - (binom n left : Int)) = m at *
        cases m with
        | nil => simp at i1
        | cons y m =>
          simp only [okFrom, Bool.and_eq_true, Bool.not_eq_true'] at i2
          have := out_in i2.1
          exact .inl (by omega)
      · rw [drawFrom_skip (by omega) (by rw [Nat.add_sub_cancel]; omega), Nat.add_sub_cancel]
        have ih := draw_bef a n (log + 1) (left + 1) (i - (binom n left : Int)) (j - (binom n left : Int)) (by omega) hle (by omega) (by omega) (by omega)
        rw [show ((log + 1 : Nat) : Int) = (log : Int) + 1 by omega] at ih
        exact ih
end Go.Proofs.Ytmgdidhhgdpobaa.Hand
