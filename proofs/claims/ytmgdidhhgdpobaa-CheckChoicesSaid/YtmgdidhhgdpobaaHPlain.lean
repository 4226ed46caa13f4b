/- In how many ways so many can be chosen, and rows of such numbers: plain Lean. -/
import Derived.WalkKit
namespace Go.Proofs.Ytmgdidhhgdpobaa.Hand

def binom : Nat → Nat → Nat
  | _, 0 => 1
  | 0, _ + 1 => 0
  | n + 1, k + 1 => binom n k + binom n (k + 1)

theorem binom_zero (n : Nat) : binom n 0 = 1 := by cases n <;> rfl
theorem binom_succ (n k : Nat) : binom (n + 1) (k + 1) = binom n k + binom n (k + 1) := rfl
theorem binom_gt : ∀ (n k : Nat), n < k → binom n k = 0
  | 0, 0, h => absurd h (Nat.lt_irrefl 0)
  | 0, k + 1, _ => rfl
  | n + 1, 0, h => by omega
  | n + 1, k + 1, h => by rw [binom_succ, binom_gt n k (by omega), binom_gt n (k + 1) (by omega)]
theorem binom_pos : ∀ (n k : Nat), k ≤ n → 0 < binom n k
  | n, 0, _ => by rw [binom_zero]; exact Nat.one_pos
  | 0, k + 1, h => by omega
  | n + 1, k + 1, h => by rw [binom_succ]; have := binom_pos n k (by omega); omega
theorem binom_le : ∀ (n k : Nat), binom n k ≤ 2 ^ n
  | n, 0 => by rw [binom_zero]; exact Nat.one_le_two_pow
  | 0, k + 1 => by simp [binom]
  | n + 1, k + 1 => by
    rw [binom_succ, Nat.pow_succ]
    have := binom_le n k
    have := binom_le n (k + 1)
    omega
theorem binom_le50 (n k : Nat) (h : n ≤ 50) : binom n k ≤ 1125899906842624 :=
  Nat.le_trans (binom_le n k) (Nat.le_trans (Nat.pow_le_pow_right (by omega) h) (by decide))

/-- a row's cells -/
def cellsOf (f : Nat → Int) : Array Value := ((List.range 51).map fun j => Value.int .i64 (f j)).toArray
theorem cellsOf_size (f : Nat → Int) : (cellsOf f).size = 51 := by simp [cellsOf]
theorem cellsOf_get (f : Nat → Int) (j : Nat) (h : j < 51) : (cellsOf f)[j]? = some (.int .i64 (f j)) := by
  simp [cellsOf, List.getElem?_range h, h]
theorem cellsOf_one (f : Nat → Int) : (cellsOf f).all (·.oneCell') = true := by
  simp [cellsOf, Value.oneCell']
def upd (f : Nat → Int) (i : Nat) (v : Int) : Nat → Int := fun j => if j = i then v else f j
theorem cellsOf_set (f : Nat → Int) (i : Nat) (v : Int) : (cellsOf f).setIfInBounds i (.int .i64 v) = cellsOf (upd f i v) := by
  apply Array.ext_getElem?
  intro j
  by_cases hj : j < 51
  · rw [cellsOf_get _ _ hj, Array.getElem?_setIfInBounds]
    by_cases e : i = j
    · subst e
      rw [if_pos rfl, if_pos (by rw [cellsOf_size]; exact hj)]
      simp [upd]
    · rw [if_neg e, cellsOf_get _ _ hj]
      simp [upd, show ¬ j = i from fun h => e h.symm]
  · have h1 : (cellsOf (upd f i v)).size ≤ j := by rw [cellsOf_size]; omega
    have h2 : ((cellsOf f).setIfInBounds i (.int .i64 v)).size ≤ j := by rw [Array.size_setIfInBounds, cellsOf_size]; omega
    rw [Array.getElem?_eq_none h1, Array.getElem?_eq_none h2]
theorem cellsOf_ext {f g : Nat → Int} (h : ∀ j, j < 51 → f j = g j) : cellsOf f = cellsOf g := by
  unfold cellsOf
  congr 1
  exact List.map_congr_left fun j hj => by rw [h j (List.mem_range.1 hj)]

/-- the row of so many logs -/
def rowF (n : Nat) : Nat → Int := fun j => (binom n j : Int)
/-- a row on its way to the next one -/
def stepF (k i : Nat) : Nat → Int := fun j => (if j < i then (binom k j : Int) else 0) + (if 1 ≤ j ∧ j ≤ i then (binom k (j - 1) : Int) else 0)
theorem stepF_zero (k : Nat) : stepF k 0 = fun _ => 0 := by
  funext j
  simp only [stepF]
  rw [if_neg (by omega), if_neg (by omega)]; rfl
theorem stepF_at (k i : Nat) (h : i ≤ k) : stepF k i i = if 1 ≤ i then (binom k (i - 1) : Int) else 0 := by
  simp only [stepF]
  rw [if_neg (Nat.lt_irrefl i)]
  by_cases h1 : 1 ≤ i
  · rw [if_pos ⟨h1, Nat.le_refl i⟩, if_pos h1]; omega
  · rw [if_neg (by omega), if_neg h1]; rfl
theorem stepF_next (k i : Nat) : stepF k i (i + 1) = 0 := by
  simp only [stepF]
  rw [if_neg (by omega), if_neg (by omega)]; rfl
theorem stepF_succ (k i : Nat) : stepF k (i + 1) = upd (upd (stepF k i) i (stepF k i i + binom k i)) (i + 1) (stepF k i (i + 1) + binom k i) := by
  funext j
  simp only [upd]
  by_cases h1 : j = i + 1
  · subst h1
    rw [if_pos rfl, stepF_next]
    simp only [stepF]
    rw [if_neg (by omega), if_pos (by omega)]; simp
  · rw [if_neg h1]
    by_cases h2 : j = i
    · subst h2
      rw [if_pos rfl]
      simp only [stepF]
      rw [if_pos (by omega), if_neg (Nat.lt_irrefl j)]
      by_cases h3 : 1 ≤ j
      · rw [if_pos (by omega), if_pos (by omega)]; omega
      · rw [if_neg (by omega), if_neg (by omega)]; omega
    · rw [if_neg h2]
      simp only [stepF]
      by_cases h3 : j < i
      · rw [if_pos (by omega), if_pos h3]
        by_cases h4 : 1 ≤ j
        · rw [if_pos (by omega), if_pos (by omega)]
        · rw [if_neg (by omega), if_neg (by omega)]
      · rw [if_neg (by omega), if_neg h3, if_neg (by omega), if_neg (by omega)]
theorem stepF_end (k : Nat) : stepF k (k + 1) = rowF (k + 1) := by
  funext j
  simp only [stepF, rowF]
  cases j with
  | zero => rw [if_pos (by omega), if_neg (by omega), binom_zero, binom_zero]; rfl
  | succ j =>
    rw [binom_succ, Nat.add_sub_cancel]
    by_cases h1 : j + 1 < k + 1
    · rw [if_pos h1, if_pos (by omega)]; omega
    · rw [if_neg h1, binom_gt k (j + 1) (by omega)]
      by_cases h2 : j ≤ k
      · rw [if_pos (by omega)]; omega
      · rw [if_neg (by omega), binom_gt k j (by omega)]; rfl
theorem stepF_bound (k i j : Nat) (h : k ≤ 50) : 0 ≤ stepF k i j ∧ stepF k i j ≤ 2251799813685248 := by
  simp only [stepF]
  have h1 := binom_le50 k j h
  have h2 := binom_le50 k (j - 1) h
  split <;> split <;> omega
theorem rowF_zero : cellsOf (upd (fun _ => 0) 0 1) = cellsOf (rowF 0) := by
  apply cellsOf_ext
  intro j _
  cases j with
  | zero => simp [upd, rowF, binom]
  | succ j => simp [upd, rowF, binom]

/-- the samples in which fewer than so many wrong logs are found: w wrong ones, v others, s in a sample -/
def upN (w v s : Nat) : Nat → Nat
  | 0 => 0
  | t + 1 => upN w v s t + binom w t * binom v (s - t)
theorem upN_succ (w v s t : Nat) : upN w v s (t + 1) = upN w v s t + binom w t * binom v (s - t) := rfl
theorem upN_split (w v s : Nat) : ∀ t, upN (w + 1) v (s + 1) (t + 1) = upN w v (s + 1) (t + 1) + upN w v s t
  | 0 => by simp [upN, binom_zero]
  | t + 1 => by
    rw [upN_succ, upN_split w v s t, upN_succ w v (s + 1) (t + 1), upN_succ w v s t, binom_succ, Nat.add_mul, show s + 1 - (t + 1) = s - t by omega]
    omega
theorem upN_none (v s : Nat) : ∀ t, upN 0 v s (t + 1) = binom v s
  | 0 => by simp [upN, binom_zero]
  | t + 1 => by rw [upN_succ, upN_none v s t, show binom 0 (t + 1) = 0 from rfl]; simp
theorem upN_all : ∀ (w v s : Nat), upN w v s (s + 1) = binom (w + v) s
  | 0, v, s => by rw [upN_none, Nat.zero_add]
  | w + 1, v, 0 => by simp [upN, binom_zero]
  | w + 1, v, s + 1 => by rw [upN_split, upN_all w v (s + 1), upN_all w v s, show w + 1 + v = (w + v) + 1 by omega, binom_succ]; omega
theorem upN_mono (w v s : Nat) {t t' : Nat} (h : t ≤ t') : upN w v s t ≤ upN w v s t' := by
  induction h with
  | refl => exact Nat.le_refl _
  | step _ ih => exact Nat.le_trans ih (by rw [upN_succ]; omega)
theorem upN_le (w v s t : Nat) (h : t ≤ s + 1) : upN w v s t ≤ binom (w + v) s := by
  rw [← upN_all]; exact upN_mono w v s h
theorem term_le (w v s t : Nat) (h : t ≤ s) : binom w t * binom v (s - t) ≤ binom (w + v) s := by
  have h1 := upN_le w v s (t + 1) (by omega)
  rw [upN_succ] at h1; omega
end Go.Proofs.Ytmgdidhhgdpobaa.Hand
