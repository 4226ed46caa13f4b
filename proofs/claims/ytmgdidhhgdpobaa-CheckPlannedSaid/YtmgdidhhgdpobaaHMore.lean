/- Plain laws of samples: with one more wrong log, or one more in the sample, at most so many are found in fewer; which numbers of wrong logs are too small or too great. -/
import Derived.Test.YtmgdidhhgdpobaaHD
namespace Go.Proofs.Ytmgdidhhgdpobaa.Hand
set_option linter.unusedVariables false
set_option linter.unusedSimpArgs false

theorem up_step (w v s : Nat) : ∀ t, t < s → upN w (v + 1) s (t + 1) = upN (w + 1) v s (t + 1) + binom w t * binom v (s - t - 1)
  | 0, h => by
    obtain ⟨s, rfl⟩ : ∃ r, s = r + 1 := ⟨s - 1, by omega⟩
    simp only [upN, binom_zero, Nat.sub_zero, Nat.add_sub_cancel, binom_succ]
    omega
  | t + 1, h => by
    have ih := up_step w v s t (by omega)
    obtain ⟨r, hr⟩ : ∃ r, s - (t + 1) = r + 1 := ⟨s - (t + 1) - 1, by omega⟩
    rw [upN_succ, upN_succ (w + 1), ih, hr, binom_succ v r, binom_succ w t, show s - t - 1 = r + 1 by omega, Nat.add_sub_cancel, Nat.mul_add, Nat.add_mul]
    omega
/-- with one more wrong log fewer samples have at most so many -/
theorem up_less (w v s t : Nat) (h : t ≤ s + 1) : upN (w + 1) v s t ≤ upN w (v + 1) s t := by
  rcases Nat.eq_zero_or_pos t with h0 | h0
  · subst h0; exact Nat.le_refl _
  · obtain ⟨u, rfl⟩ : ∃ u, t = u + 1 := ⟨t - 1, by omega⟩
    by_cases hu : u < s
    · rw [up_step w v s u hu]; omega
    · obtain rfl : u = s := by omega
      rw [upN_all, upN_all, show w + 1 + v = w + (v + 1) by omega]
      exact Nat.le_refl _
/-- but at most one more is found -/
theorem up_shift (w v s t : Nat) (h : t ≤ s) : upN w (v + 1) s t ≤ upN (w + 1) v s (t + 1) := by
  by_cases hu : t < s
  · have h1 := up_step w v s t hu
    obtain ⟨r, hr⟩ : ∃ r, s - t = r + 1 := ⟨s - t - 1, by omega⟩
    have h2 := upN_succ w (v + 1) s t
    rw [hr, binom_succ, Nat.mul_add] at h2
    rw [hr, Nat.add_sub_cancel] at h1
    omega
  · obtain rfl : t = s := by omega
    rw [upN_all, show w + 1 + v = w + (v + 1) by omega]
    exact upN_le w (v + 1) t t (by omega)

/-- how many samples have at most so many, by the number of wrong logs; the same, with fewer than so many -/
def UU (a s f w : Nat) : Nat := upN w (a - w) s (f + 1)
def LL (a s f w : Nat) : Nat := upN w (a - w) s f
theorem UU_succ (a s f w : Nat) (h : f ≤ s) (hw : w < a) : UU a s f (w + 1) ≤ UU a s f w := by
  unfold UU
  have := up_less w (a - (w + 1)) s (f + 1) (by omega)
  rw [show a - (w + 1) + 1 = a - w by omega] at this
  exact this
theorem LL_succ (a s f w : Nat) (h : f ≤ s) (hw : w < a) : LL a s f (w + 1) ≤ LL a s f w := by
  unfold LL
  have := up_less w (a - (w + 1)) s f (by omega)
  rw [show a - (w + 1) + 1 = a - w by omega] at this
  exact this
theorem UU_anti (a s f : Nat) (h : f ≤ s) : ∀ (d w : Nat), w + d ≤ a → UU a s f (w + d) ≤ UU a s f w
  | 0, w, _ => Nat.le_refl _
  | d + 1, w, hw => Nat.le_trans (UU_succ a s f (w + d) h (by omega)) (UU_anti a s f h d w (by omega))
theorem LL_anti (a s f : Nat) (h : f ≤ s) : ∀ (d w : Nat), w + d ≤ a → LL a s f (w + d) ≤ LL a s f w
  | 0, w, _ => Nat.le_refl _
  | d + 1, w, hw => Nat.le_trans (LL_succ a s f (w + d) h (by omega)) (LL_anti a s f h d w (by omega))
theorem LL_UU (a s f w : Nat) (h : f ≤ s) (hw : w < a) : LL a s f w ≤ UU a s f (w + 1) := by
  unfold LL UU
  have := up_shift w (a - (w + 1)) s f h
  rw [show a - (w + 1) + 1 = a - w by omega] at this
  exact this
theorem LL_le_UU (a s f w : Nat) : LL a s f w ≤ UU a s f w := upN_mono _ _ _ (by omega)
theorem UU_le (a s f w : Nat) (h : f ≤ s) (hw : w ≤ a) : UU a s f w ≤ binom a s := by
  have := upN_le w (a - w) s (f + 1) (by omega)
  rw [show w + (a - w) = a by omega] at this
  exact this
theorem UU_zero (a s f : Nat) : UU a s f 0 = binom a s := by unfold UU; rw [upN_none]; rfl
theorem LL_top (a s : Nat) : ∀ f, f ≤ s → LL a s f a = 0 := by
  intro f
  unfold LL
  rw [Nat.sub_self]
  induction f with
  | zero => intro _; rfl
  | succ f ih => intro h; rw [upN_succ, ih (by omega), binom_gt 0 (s - f) (by omega), Nat.mul_zero]
/-- too great, too small, for a risk num / den -/
def GreatN (a s f num den w : Nat) : Prop := UU a s f w * den ≤ binom a s * num
def SmallN (a s f num den w : Nat) : Prop := (binom a s - LL a s f w) * den ≤ binom a s * num
instance (a s f num den w : Nat) : Decidable (GreatN a s f num den w) := Nat.decLe _ _
instance (a s f num den w : Nat) : Decidable (SmallN a s f num den w) := Nat.decLe _ _
theorem half_bad {a s num den : Nat} (hs : s ≤ a) (hr : 2 * num < den) {x y : Nat} (hx : x * den ≤ binom a s * num) (hy : y * den ≤ binom a s * num) (h : binom a s ≤ x + y) : False := by
  have hp := binom_pos a s hs
  have h1 : (x + y) * den ≤ 2 * (binom a s * num) := by rw [Nat.add_mul]; omega
  have h2 : binom a s * den ≤ (x + y) * den := Nat.mul_le_mul_right _ h
  have h3 : 2 * (binom a s * num) = binom a s * (2 * num) := by rw [Nat.mul_left_comm]
  have h4 : binom a s * (2 * num) < binom a s * den := Nat.mul_lt_mul_of_pos_left hr hp
  omega
section
variable {a s f num den : Nat} (hs : s ≤ a) (hf : f ≤ s) (hr : 2 * num < den)
include hf
theorem great_up {w w' : Nat} (h : w ≤ w') (hw : w' ≤ a) (g : GreatN a s f num den w) : GreatN a s f num den w' := by
  obtain ⟨d, rfl⟩ := Nat.exists_eq_add_of_le h
  exact Nat.le_trans (Nat.mul_le_mul_right _ (UU_anti a s f hf d w hw)) g
theorem small_down {w w' : Nat} (h : w ≤ w') (hw : w' ≤ a) (g : SmallN a s f num den w') : SmallN a s f num den w := by
  obtain ⟨d, rfl⟩ := Nat.exists_eq_add_of_le h
  have := LL_anti a s f hf d w hw
  exact Nat.le_trans (Nat.mul_le_mul_right _ (by omega)) g
include hs hr
omit hf in
theorem not_both {w : Nat} (g : GreatN a s f num den w) (l : SmallN a s f num den w) : False :=
  half_bad hs hr g l (by have := LL_le_UU a s f w; omega)
omit hf in
theorem great_zero : ¬ GreatN a s f num den 0 := fun g => half_bad hs hr g (y := 0) (by omega) (by rw [UU_zero]; omega)
theorem small_top : ¬ SmallN a s f num den a := fun g => half_bad hs hr g (y := 0) (by omega) (by rw [LL_top a s f hf]; omega)
/-- just above a number that is too small none is too great -/
theorem small_great {w : Nat} (hw : w < a) (l : SmallN a s f num den w) (g : GreatN a s f num den (w + 1)) : False :=
  half_bad hs hr g l (by have := LL_UU a s f w hf hw; omega)
/-- some number is neither -/
theorem between_some : ∃ w, w ≤ a ∧ ¬ GreatN a s f num den w ∧ ¬ SmallN a s f num den w := by
  have key : ∀ n, n ≤ a → (∀ w, w < n → SmallN a s f num den w) → ∃ w, w ≤ a ∧ ¬ GreatN a s f num den w ∧ ¬ SmallN a s f num den w := by
    intro n
    induction h : a - n generalizing n with
    | zero =>
      intro hn hl
      obtain rfl : n = a := by omega
      refine ⟨n, Nat.le_refl n, fun g => ?_, small_top hs hf hr⟩
      rcases Nat.eq_zero_or_pos n with h0 | h0
      · subst h0; exact great_zero hs hr g
      · obtain ⟨m, rfl⟩ : ∃ m, n = m + 1 := ⟨n - 1, by omega⟩
        exact small_great hs hf hr (by omega) (hl m (by omega)) g
    | succ d ih =>
      intro hn hl
      by_cases hsm : SmallN a s f num den n
      · exact ih (n + 1) (by omega) (by omega) (fun w hw => by
          by_cases e : w = n
          · subst e; exact hsm
          · exact hl w (by omega))
      · refine ⟨n, hn, fun g => ?_, hsm⟩
        rcases Nat.eq_zero_or_pos n with h0 | h0
        · subst h0; exact great_zero hs hr g
        · obtain ⟨m, rfl⟩ : ∃ m, n = m + 1 := ⟨n - 1, by omega⟩
          exact small_great hs hf hr (by omega) (hl m (by omega)) g
  exact key 0 (by omega) (fun w hw => by omega)
end
end Go.Proofs.Ytmgdidhhgdpobaa.Hand
