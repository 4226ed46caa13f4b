/- Plain laws of sums: a sum over a window, sums of sums, samples of two booms together. -/
import Derived.Test.YtmgdidhhgdpobaaHD
namespace Go.Proofs.Ytmgdidhhgdpobaa.Hand
set_option linter.unusedVariables false
set_option linter.unusedSimpArgs false

def sumN (g : Nat → Nat) : Nat → Nat
  | 0 => 0
  | n + 1 => sumN g n + g n
/-- n summands from lo on -/
def rng (g : Nat → Nat) (lo : Nat) : Nat → Nat
  | 0 => 0
  | n + 1 => g lo + rng g (lo + 1) n
theorem sumN_ext {g h : Nat → Nat} : ∀ n, (∀ t, t < n → g t = h t) → sumN g n = sumN h n
  | 0, _ => rfl
  | n + 1, e => by rw [sumN, sumN, sumN_ext n (fun t ht => e t (by omega)), e n (by omega)]
theorem sumN_zero {g : Nat → Nat} : ∀ n, (∀ t, t < n → g t = 0) → sumN g n = 0
  | 0, _ => rfl
  | n + 1, e => by rw [sumN, sumN_zero n (fun t ht => e t (by omega)), e n (by omega)]
theorem sumN_rng (g : Nat → Nat) : ∀ n lo, sumN g lo + rng g lo n = sumN g (lo + n)
  | 0, lo => rfl
  | n + 1, lo => by
    have h := sumN_rng g n (lo + 1)
    rw [rng, show lo + (n + 1) = lo + 1 + n by omega, ← h, sumN]
    omega
theorem sumN_split (g : Nat → Nat) : ∀ n m, sumN g (m + n) = sumN g m + sumN (fun t => g (m + t)) n
  | 0, m => by simp [sumN]
  | n + 1, m => by rw [← Nat.add_assoc, sumN, sumN, sumN_split g n m]; omega
theorem sumN_window {g : Nat → Nat} {N lo n : Nat} (h : lo + n ≤ N) (h0 : ∀ t, t < lo → g t = 0) (h1 : ∀ t, lo + n ≤ t → t < N → g t = 0) : sumN g N = rng g lo n := by
  have e1 := sumN_rng g n lo
  rw [sumN_zero lo h0, Nat.zero_add] at e1
  obtain ⟨m, rfl⟩ : ∃ m, N = lo + n + m := ⟨N - (lo + n), by omega⟩
  rw [sumN_split, sumN_zero m (fun t ht => h1 _ (by omega) (by omega)), e1]
  omega
theorem rng_shift (g : Nat → Nat) : ∀ n lo, rng g lo n = sumN (fun t => g (lo + t)) n
  | 0, _ => rfl
  | n + 1, lo => by
    have h := sumN_split (fun t => g (lo + t)) n 1
    rw [rng, rng_shift g n (lo + 1), Nat.add_comm n 1, h]
    simp only [sumN, Nat.zero_add, Nat.add_zero]
    congr 1
    exact sumN_ext n fun t _ => by rw [Nat.add_assoc]
theorem sumN_add (g h : Nat → Nat) : ∀ n, sumN (fun t => g t + h t) n = sumN g n + sumN h n
  | 0 => rfl
  | n + 1 => by simp only [sumN]; rw [sumN_add g h n]; omega
theorem sumN_mul (c : Nat) (g : Nat → Nat) : ∀ n, sumN (fun t => c * g t) n = c * sumN g n
  | 0 => rfl
  | n + 1 => by simp only [sumN]; rw [sumN_mul c g n, Nat.mul_add]
theorem sumN_swap (g : Nat → Nat → Nat) (K : Nat) : ∀ n, sumN (fun i => sumN (g i) K) n = sumN (fun k => sumN (fun i => g i k) n) K
  | 0 => (sumN_zero K fun _ _ => rfl).symm
  | n + 1 => by simp only [sumN]; rw [sumN_swap g K n, sumN_add]
theorem upN_sum (w v s : Nat) : ∀ t, upN w v s t = sumN (fun i => binom w i * binom v (s - i)) t
  | 0 => rfl
  | t + 1 => by rw [upN_succ, upN_sum w v s t]; rfl

/-- samples of so many logs of the one boom, so many wrong ones found among them, with what is left of the other boom -/
def pairN (w b v c s f i k : Nat) : Nat := if k ≤ f ∧ k ≤ i ∧ f + i ≤ s + k then binom w k * binom (b - w) (i - k) * (binom v (f - k) * binom (c - v) (s - i - (f - k))) else 0
theorem pair_sum (w b v c s f : Nat) (h1 : w ≤ b) (h2 : v ≤ c) (h3 : f ≤ s) : sumN (fun i => sumN (pairN w b v c s f i) (f + 1)) (s + 1) = binom (w + v) f * binom (b + c - (w + v)) (s - f) := by
  rw [sumN_swap]
  have hk : ∀ k, k < f + 1 → sumN (fun i => pairN w b v c s f i k) (s + 1) = binom (b + c - (w + v)) (s - f) * (binom w k * binom v (f - k)) := fun k hk => by
    rw [sumN_window (lo := k) (n := s - f + 1) (by omega) (fun t ht => by unfold pairN; rw [if_neg (by omega)]) (fun t ht ht2 => by unfold pairN; rw [if_neg (by omega)]), rng_shift]
    have e : ∀ j, j < s - f + 1 → pairN w b v c s f (k + j) k = (binom w k * binom v (f - k)) * (binom (b - w) j * binom (c - v) (s - f - j)) := fun j hj => by
      unfold pairN
      rw [if_pos (by omega), show k + j - k = j by omega, show s - (k + j) - (f - k) = s - f - j by omega]
      simp only [Nat.mul_comm, Nat.mul_left_comm, Nat.mul_assoc]
    rw [sumN_ext _ e, sumN_mul, ← upN_sum, upN_all, Nat.mul_comm, show b - w + (c - v) = b + c - (w + v) by omega]
  rw [sumN_ext _ hk, sumN_mul, ← upN_sum, upN_all, Nat.mul_comm]
theorem pair_zero {w b v c s f i k : Nat} (h1 : w ≤ b) (h2 : v ≤ c) (h : b < i ∨ i + c < s) : pairN w b v c s f i k = 0 := by
  unfold pairN
  split
  · rename_i g
    rcases h with h | h
    · by_cases hk : w < k
      · rw [binom_gt w k hk]; simp
      · rw [binom_gt (b - w) (i - k) (by omega)]; simp
    · by_cases hk : v < f - k
      · rw [binom_gt v (f - k) hk]; simp
      · rw [binom_gt (c - v) (s - i - (f - k)) (by omega)]; simp
  · rfl
/-- the sum that is taken -/
theorem parted_sum (w b v c s f : Nat) (h1 : w ≤ b) (h2 : v ≤ c) (h3 : f ≤ s) (h4 : s ≤ b + c) : rng (fun i => sumN (pairN w b v c s f i) (f + 1)) (s - c) (min s b + 1 - (s - c)) = binom (w + v) f * binom (b + c - (w + v)) (s - f) := by
  rw [← pair_sum w b v c s f h1 h2 h3]
  symm
  exact sumN_window (by omega) (fun t ht => sumN_zero _ fun k _ => pair_zero h1 h2 (.inr (by omega))) (fun t ht ht2 => sumN_zero _ fun k _ => pair_zero h1 h2 (.inl (by omega)))
theorem parted_inner (w b v c s f i : Nat) (h3 : f ≤ s) (h5 : i ≤ s) : rng (pairN w b v c s f i) (f - (s - i)) (min f i + 1 - (f - (s - i))) = sumN (pairN w b v c s f i) (f + 1) := by
  symm
  exact sumN_window (by omega) (fun t ht => by unfold pairN; rw [if_neg (by omega)]) (fun t ht ht2 => by unfold pairN; rw [if_neg (by omega)])
end Go.Proofs.Ytmgdidhhgdpobaa.Hand
