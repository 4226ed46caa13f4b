/- Texts of the claim, joined: HMath, HRef, HBoom. -/
import Derived.Test.YtmgdidhhgdpobaaHA
import Derived.Test.YtmgdidhhgdpobaaHB
import Derived.Test.YtmgdidhhgdpobaaPrR1
import Derived.DataShut
import Derived.Test.YtmgdidhhgdpobaaPrD1
/- Plain laws of choices: factorials, symmetry, exchange of sample and wrong logs, fractions in least terms. -/
namespace Go.Proofs.Ytmgdidhhgdpobaa.Hand
set_option linter.unusedVariables false
set_option linter.unusedSimpArgs false

def fact : Nat → Nat
  | 0 => 1
  | n + 1 => (n + 1) * fact n
theorem fact_pos : ∀ n, 0 < fact n
  | 0 => Nat.one_pos
  | n + 1 => Nat.mul_pos (Nat.succ_pos n) (fact_pos n)
theorem binom_self : ∀ n, binom n n = 1
  | 0 => rfl
  | n + 1 => by rw [binom_succ, binom_self n, binom_gt n (n + 1) (by omega)]
theorem binom_fact : ∀ n k, k ≤ n → binom n k * (fact k * fact (n - k)) = fact n
  | n, 0, _ => by rw [binom_zero, Nat.sub_zero]; show 1 * (1 * fact n) = fact n; omega
  | 0, k + 1, h => by omega
  | n + 1, k + 1, h => by
    by_cases hk : k = n
    · subst hk
      rw [binom_self, Nat.sub_self]; show 1 * (fact (k + 1) * 1) = _; omega
    · have h1 := binom_fact n k (by omega)
      have h2 := binom_fact n (k + 1) (by omega)
      have e : n - k = (n - (k + 1)) + 1 := by omega
      have e2 : n + 1 - (k + 1) = n - k := by omega
      have f1 : fact (n - k) = (n - k) * fact (n - (k + 1)) := by rw [e]; rfl
      have f2 : fact (k + 1) = (k + 1) * fact k := rfl
      have f3 : fact (n + 1) = (n + 1) * fact n := rfl
      rw [e2, binom_succ, Nat.add_mul, f3]
      have g1 : binom n k * (fact (k + 1) * fact (n - k)) = (k + 1) * fact n := by
        rw [f2, ← h1]; simp only [Nat.mul_comm, Nat.mul_left_comm, Nat.mul_assoc]
      have g2 : binom n (k + 1) * (fact (k + 1) * fact (n - k)) = (n - k) * fact n := by
        rw [f1, ← h2]; simp only [Nat.mul_comm, Nat.mul_left_comm, Nat.mul_assoc]
      rw [g1, g2, ← Nat.add_mul]
      congr 1
      omega
theorem binom_symm (n k : Nat) (h : k ≤ n) : binom n k = binom n (n - k) := by
  have h1 := binom_fact n k h
  have h2 := binom_fact n (n - k) (by omega)
  rw [show n - (n - k) = k by omega, Nat.mul_comm (fact (n - k))] at h2
  exact Nat.eq_of_mul_eq_mul_right (Nat.mul_pos (fact_pos k) (fact_pos (n - k))) (h1.trans h2.symm)
/-- how many ways to choose the wrong logs, and a sample with so many of them -/
theorem tri_fact (a w s i : Nat) (h1 : w ≤ a) (h2 : i ≤ w) (h3 : i ≤ s) (h4 : s - i ≤ a - w) :
    binom a w * (binom w i * binom (a - w) (s - i)) * (fact i * fact (w - i) * (fact (s - i) * fact (a - w - (s - i)))) = fact a := by
  have e1 := binom_fact w i h2
  have e2 := binom_fact (a - w) (s - i) h4
  have e3 := binom_fact a w h1
  rw [← e3, ← e1, ← e2]
  simp only [Nat.mul_comm, Nat.mul_left_comm, Nat.mul_assoc]
theorem tri_swap (a w s i : Nat) (h1 : w ≤ a) (h2 : s ≤ a) (h3 : i ≤ w) (h4 : i ≤ s) : binom a w * (binom w i * binom (a - w) (s - i)) = binom a s * (binom s i * binom (a - s) (w - i)) := by
  by_cases hz : s - i ≤ a - w
  · have e1 := tri_fact a w s i h1 h3 h4 hz
    have e2 := tri_fact a s w i h2 h4 h3 (by omega)
    have e3 : fact i * fact (s - i) * (fact (w - i) * fact (a - s - (w - i))) = fact i * fact (w - i) * (fact (s - i) * fact (a - w - (s - i))) := by
      rw [show a - s - (w - i) = a - w - (s - i) by omega]
      simp only [Nat.mul_comm, Nat.mul_left_comm, Nat.mul_assoc]
    rw [e3] at e2
    exact Nat.eq_of_mul_eq_mul_right (Nat.mul_pos (Nat.mul_pos (fact_pos _) (fact_pos _)) (Nat.mul_pos (fact_pos _) (fact_pos _))) (e1.trans e2.symm)
  · rw [binom_gt (a - w) (s - i) (by omega), binom_gt (a - s) (w - i) (by omega)]; simp
theorem upN_swap (a w s : Nat) (h1 : w ≤ a) (h2 : s ≤ a) : ∀ t, t ≤ w + 1 → t ≤ s + 1 → binom a w * upN w (a - w) s t = binom a s * upN s (a - s) w t
  | 0, _, _ => by simp [upN]
  | t + 1, h3, h4 => by rw [upN_succ, upN_succ, Nat.mul_add, Nat.mul_add, upN_swap a w s h1 h2 t (by omega) (by omega), tri_swap a w s t h1 h2 (by omega) (by omega)]

/-- a fraction has one form in least terms -/
theorem least_terms {m n m' n' : Nat} (hm : 0 < m) (hm' : 0 < m') (h : n * m' = n' * m) : n / Nat.gcd m n = n' / Nat.gcd m' n' ∧ m / Nat.gcd m n = m' / Nat.gcd m' n' := by
  have hg := Nat.gcd_pos_of_pos_left n hm
  have hg' := Nat.gcd_pos_of_pos_left n' hm'
  obtain ⟨p, hp⟩ := Nat.gcd_dvd_left m n
  obtain ⟨q, hq⟩ := Nat.gcd_dvd_right m n
  obtain ⟨p', hp'⟩ := Nat.gcd_dvd_left m' n'
  obtain ⟨q', hq'⟩ := Nat.gcd_dvd_right m' n'
  have c1 : Nat.gcd p q = 1 := by
    have := Nat.gcd_div (Nat.gcd_dvd_left m n) (Nat.gcd_dvd_right m n)
    rw [Nat.div_self hg] at this
    rwa [Nat.div_eq_of_eq_mul_right hg hp, Nat.div_eq_of_eq_mul_right hg hq] at this
  have c2 : Nat.gcd p' q' = 1 := by
    have := Nat.gcd_div (Nat.gcd_dvd_left m' n') (Nat.gcd_dvd_right m' n')
    rw [Nat.div_self hg'] at this
    rwa [Nat.div_eq_of_eq_mul_right hg' hp', Nat.div_eq_of_eq_mul_right hg' hq'] at this
  rw [Nat.div_eq_of_eq_mul_right hg hp, Nat.div_eq_of_eq_mul_right hg hq, Nat.div_eq_of_eq_mul_right hg' hp', Nat.div_eq_of_eq_mul_right hg' hq']
  generalize Nat.gcd m n = g at *
  generalize Nat.gcd m' n' = g' at *
  subst hp hq hp' hq'
  have hx : q * p' = q' * p := by
    have : (g * g') * (q * p') = (g * g') * (q' * p) := by
      have e1 : (g * g') * (q * p') = g * q * (g' * p') := by simp only [Nat.mul_comm, Nat.mul_left_comm, Nat.mul_assoc]
      have e2 : (g * g') * (q' * p) = g' * q' * (g * p) := by simp only [Nat.mul_comm, Nat.mul_left_comm, Nat.mul_assoc]
      rw [e1, e2, h]
    exact Nat.eq_of_mul_eq_mul_left (Nat.mul_pos hg hg') this
  have d1 : p ∣ p' := Nat.Coprime.dvd_of_dvd_mul_left (show Nat.Coprime p q from c1) (show p ∣ q * p' from ⟨q', by rw [hx, Nat.mul_comm]⟩)
  have d2 : p' ∣ p := Nat.Coprime.dvd_of_dvd_mul_left (show Nat.Coprime p' q' from c2) (show p' ∣ q' * p from ⟨q, by rw [← hx, Nat.mul_comm]⟩)
  have hpp : p = p' := Nat.dvd_antisymm d1 d2
  subst hpp
  have hp0 : 0 < p := Nat.pos_of_mul_pos_left hm
  exact ⟨Nat.eq_of_mul_eq_mul_right hp0 hx, rfl⟩
end Go.Proofs.Ytmgdidhhgdpobaa.Hand

/- The reference's numbers are the plain ones: choices, samples, those with at most so many, the greatest common divisor. -/
namespace Go.Proofs.Ytmgdidhhgdpobaa.Hand
set_option linter.unusedVariables false
set_option linter.unusedSimpArgs false
open Go.RowKit Go.Proofs.YtmgdidhhgdpobaaW.PrintWords Go.Proofs.YtmgdidhhgdpobaaW.PrintLast Go.Proofs.Ytmgdidhhgdpobaa.PrR

theorem binom_absorb : ∀ n k, (k + 1) * binom (n + 1) (k + 1) = (n + 1) * binom n k
  | 0, 0 => rfl
  | 0, k + 1 => by rw [binom_gt 1 (k + 2) (by omega), binom_gt 0 (k + 1) (by omega)]; simp
  | n + 1, 0 => by
    have := binom_absorb n 0
    rw [binom_zero] at this ⊢
    rw [binom_succ, binom_zero]
    omega
  | n + 1, k + 1 => by
    have h1 := binom_absorb n k
    have h2 := binom_absorb n (k + 1)
    rw [binom_succ (n + 1) (k + 1), Nat.mul_add, h2, Nat.add_mul (k + 1) 1, h1, Nat.one_mul, binom_succ n k, Nat.mul_add (n + 1 + 1)]
    have e1 : (n + 1 + 1) * binom n k = (n + 1) * binom n k + binom n k := by rw [Nat.add_mul, Nat.one_mul]
    have e2 : (n + 1 + 1) * binom n (k + 1) = (n + 1) * binom n (k + 1) + binom n (k + 1) := by rw [Nat.add_mul, Nat.one_mul]
    rw [e1, e2]
    omega
/-- each number from the one before it -/
theorem binom_next (n k : Nat) (h : k ≤ n) : binom n k * (n - k) = binom n (k + 1) * (k + 1) := by
  have h1 := binom_absorb n k
  rw [binom_succ, Nat.mul_add] at h1
  have h2 : (n + 1) * binom n k = (k + 1) * binom n k + (n - k) * binom n k := by rw [← Nat.add_mul]; congr 1; omega
  rw [h2] at h1
  rw [Nat.mul_comm (binom n k), Nat.mul_comm (binom n (k + 1))]
  omega

theorem wsub (n i : Nat) (h : i ≤ n) (hn : n ≤ 1000) : wrap64 ((n : Int) - i) = ((n - i : Nat) : Int) := by rw [wrap64_in (by omega)]; omega
theorem wsucc (i : Nat) (hn : i ≤ 100000) : wrap64 ((i : Int) + 1) = ((i + 1 : Nat) : Int) := by rw [wrap64_in (by omega)]; omega
theorem wadd (a b c : Nat) (h : c = a + b) (hn : c ≤ 1125899906842624) : wrap64 ((a : Int) + (b : Int)) = (c : Int) := by rw [wrap64_in (by omega)]; omega
theorem wmul (a b c : Nat) (h : a * b = c) (hn : c ≤ 57420895248973824) : wrap64 ((a : Int) * (b : Int)) = (c : Int) := by
  rw [← Int.natCast_mul, h, wrap64_in (by omega)]
/-- what Choices comes to -/
def choN (n k : Int) : Int := if k < 0 ∨ n < k then 0 else (binom n.toNat k.toNat : Int)
theorem choices_loop (n s : Nat) (hn : n ≤ 50) (hs : s ≤ n) : ∀ (m i : Nat), i + m = s → ∀ k, m < k → peaveyref10_Choices.l0 k n s (binom n i) i = some (binom n s : Int)
  | 0, i, hi, k + 1, _ => by
    rw [peaveyref10_Choices.l0, if_neg (by omega)]
    rw [show i = s by omega]
  | m + 1, i, hi, k + 1, hk => by
    have hb := binom_le50 n i hn
    have hb2 := binom_le50 n (i + 1) hn
    have hx := binom_next n i (by omega)
    have h51 : i + 1 ≤ 51 := by omega
    have hle : binom n (i + 1) * (i + 1) ≤ 57420895248973824 := Nat.le_trans (Nat.mul_le_mul hb2 h51) (by decide)
    have hlt : (i : Int) < (s : Int) := by omega
    have hne : ¬ ((i + 1 : Nat) : Int) = 0 := by omega
    have hnn : 0 ≤ ((binom n (i + 1) * (i + 1) : Nat) : Int) := Int.natCast_nonneg _
    have hbw : -9223372036854775808 ≤ ((binom n (i + 1) : Nat) : Int) ∧ ((binom n (i + 1) : Nat) : Int) ≤ 9223372036854775807 := by omega
    rw [peaveyref10_Choices.l0, if_pos hlt, wsucc i (by omega), if_neg hne, wsub n i (by omega) (by omega), wmul _ _ _ hx hle, Int.tdiv_eq_ediv_of_nonneg hnn, ← Int.natCast_ediv, Nat.mul_div_cancel _ (by omega), wrap64_in hbw]
    exact choices_loop n s hn hs m (i + 1) (by omega) k (by omega)
theorem choices_is (n s : Int) (hn : n ≤ 50) (k : Nat) (hk : 60 ≤ k) : peaveyref10_Choices.f k n s = some (choN n s) := by
  obtain ⟨k, rfl⟩ : ∃ j, k = j + 1 := ⟨k - 1, by omega⟩
  unfold peaveyref10_Choices.f choN
  by_cases h1 : s < 0
  · rw [if_pos h1, if_pos (.inl h1)]; rfl
  · rw [if_neg h1]
    by_cases h2 : n < s
    · rw [if_pos (.inr h2), decide_eq_true h2]; rfl
    · rw [if_neg (by omega), decide_eq_false h2]
      obtain ⟨s, rfl⟩ := Int.eq_ofNat_of_zero_le (show 0 ≤ s by omega)
      obtain ⟨n, rfl⟩ := Int.eq_ofNat_of_zero_le (show 0 ≤ n by omega)
      have := choices_loop n s (by omega) (by omega) s 0 (by omega) k (by omega)
      rw [binom_zero] at this
      exact this
theorem choN_nat (n k : Nat) : choN n k = (binom n k : Int) := by
  unfold choN
  by_cases h : n < k
  · rw [if_pos (.inr (by omega)), binom_gt n k h]; rfl
  · rw [if_neg (by omega)]; rfl
theorem choN_in {n k : Int} (h0 : 0 ≤ n) (h1 : 0 ≤ k) : choN n k = (binom n.toNat k.toNat : Int) := by
  obtain ⟨n, rfl⟩ := Int.eq_ofNat_of_zero_le h0
  obtain ⟨k, rfl⟩ := Int.eq_ofNat_of_zero_le h1
  exact choN_nat n k

theorem justN_le {a w s f : Int} (h1 : 0 ≤ w) (h2 : w ≤ a) (h3 : 0 ≤ f) (h4 : f ≤ s) : justN a w s f ≤ (binom a.toNat s.toNat : Int) ∧ 0 ≤ justN a w s f := by
  have := term_le w.toNat (a - w).toNat s.toNat f.toNat (by omega)
  rw [show w.toNat + (a - w).toNat = a.toNat by omega] at this
  unfold justN
  rw [show (s - f).toNat = s.toNat - f.toNat by omega]
  omega
theorem just_is (a w s f : Int) (ha : a ≤ 50) (h1 : 0 ≤ w) (h2 : w ≤ a) (h3 : 0 ≤ f) (h4 : f ≤ s) (h5 : s ≤ 50) (k : Nat) (hk : 60 ≤ k) : peaveyref10_Just.f k a w s f = some (justN a w s f) := by
  have hj := justN_le h1 h2 h3 h4
  have hb := binom_le50 a.toNat s.toNat (by omega)
  unfold peaveyref10_Just.f
  rw [choices_is w f (by omega) k hk, Option.bind_some, wrap64_in (x := a - w) (by omega), wrap64_in (x := s - f) (by omega), choices_is (a - w) (s - f) (by omega) k hk, Option.bind_some, choN_in h1 h3, choN_in (by omega) (by omega)]
  rw [← Int.natCast_mul]
  have e : ((binom w.toNat f.toNat * binom (a - w).toNat (s - f).toNat : Nat) : Int) = justN a w s f := rfl
  rw [e, wrap64_in (by omega)]
theorem uptoN_bound {a w s f : Int} (ha : a ≤ 50) (h1 : 0 ≤ w) (h2 : w ≤ a) (h3 : 0 ≤ f) (h4 : f ≤ s) : 0 ≤ uptoN a w s f ∧ uptoN a w s f ≤ (binom a.toNat s.toNat : Int) ∧ binom a.toNat s.toNat ≤ 1125899906842624 := by
  have h := uptoN_le h1 h2 h3 h4
  have h' := uptoN_nat a w s f
  have hb := binom_le50 a.toNat s.toNat (by omega)
  omega
theorem upto_loop (a w s f : Nat) (ha : a ≤ 50) (h2 : w ≤ a) (h4 : f ≤ s) (h5 : s ≤ 50) : ∀ (m i : Nat), i + m = f + 1 → ∀ k, 60 + m < k → peaveyref10_UpTo.l0 k a w s f (upN w (a - w) s i) i = some (uptoN a w s f)
  | 0, i, hi, k + 1, _ => by
    rw [peaveyref10_UpTo.l0, if_neg (by omega)]
    rw [show i = f + 1 by omega]
    unfold uptoN
    simp only [Int.toNat_natCast]
    rw [show ((a : Int) - (w : Int)).toNat = a - w by omega]
  | m + 1, i, hi, k + 1, hk => by
    have hs := upN_succ w (a - w) s i
    have hl := upN_le w (a - w) s (i + 1) (by omega)
    have hb := binom_le50 (w + (a - w)) s (by omega)
    have hj := just_is a w s i (by omega) (by omega) (by omega) (by omega) (by omega) (by omega) k (by omega)
    have hv : justN a w s i = ((binom w i * binom (a - w) (s - i) : Nat) : Int) := by
      unfold justN
      simp only [Int.toNat_natCast]
      rw [show ((a : Int) - (w : Int)).toNat = a - w by omega, show ((s : Int) - (i : Int)).toNat = s - i by omega]
    have hle : (i : Int) ≤ (f : Int) := by omega
    rw [peaveyref10_UpTo.l0, if_pos hle, hj, Option.bind_some, hv, wsucc i (by omega), wadd _ _ _ hs (by omega)]
    exact upto_loop a w s f ha h2 h4 h5 m (i + 1) (by omega) k (by omega)
theorem upto_is (a w s f : Int) (ha : a ≤ 50) (h1 : 0 ≤ w) (h2 : w ≤ a) (h3 : 0 ≤ f) (h4 : f ≤ s) (h5 : s ≤ 50) (k : Nat) (hk : 120 ≤ k) : peaveyref10_UpTo.f k a w s f = some (uptoN a w s f) := by
  obtain ⟨a, rfl⟩ := Int.eq_ofNat_of_zero_le (show 0 ≤ a by omega)
  obtain ⟨w, rfl⟩ := Int.eq_ofNat_of_zero_le h1
  obtain ⟨f, rfl⟩ := Int.eq_ofNat_of_zero_le h3
  obtain ⟨s, rfl⟩ := Int.eq_ofNat_of_zero_le (show 0 ≤ s by omega)
  exact upto_loop a w s f (by omega) (by omega) (by omega) (by omega) (f + 1) 0 (by omega) k (by omega)
theorem within_is (n lo hi : Int) : peaveyref10_within.f n lo hi = some (!outB lo hi n) := by
  unfold peaveyref10_within.f
  rw [out_iff]
  by_cases h1 : n ≥ lo
  · rw [if_pos h1]
    simp [h1]
  · rw [if_neg h1]
    simp [h1]
theorem isCase_is (a w s f : Int) : peaveyref10_IsCase.f a w s f = some (caseB a w s f) := by
  unfold peaveyref10_IsCase.f caseB
  simp only [within_is, Option.bind_some]
  cases outB 1 50 a <;> cases outB 0 a w <;> cases outB 0 a s <;> cases outB 0 s f <;> rfl
theorem choose_is (n s : Int) (k : Nat) (hk : 60 ≤ k) : peaveyref10_Choose.f k n s = check_Choose.f n s := by
  unfold peaveyref10_Choose.f check_Choose.f
  simp only [within_is, Option.bind_some]
  cases h1 : outB 0 50 n <;> cases h2 : outB 0 50 s
  · have i1 := out_in h1
    have i2 := out_in h2
    simp only [Bool.not_false, if_true, Bool.or_self, Bool.false_eq_true, if_false]
    rw [choices_is n s (by omega) k hk, choN_in (by omega) (by omega)]
    rfl
  · rfl
  · rfl
  · rfl
theorem samples_is (a w s f : Int) (k : Nat) (hk : 60 ≤ k) : peaveyref10_Samples.f k a w s f = check_Samples.f a w s f := by
  unfold peaveyref10_Samples.f check_Samples.f
  simp only [isCase_is, Option.bind_some]
  cases h : caseB a w s f
  · rfl
  · obtain ⟨p1, p2, p3, p4, p5, p6, p7, p8⟩ := case_in h
    simp only [if_true]
    rw [just_is a w s f p2 p3 p4 p7 p8 (by omega) k hk]
    rfl
theorem atMost_is (a w s f : Int) (k : Nat) (hk : 120 ≤ k) : peaveyref10_AtMost.f k a w s f = check_AtMost.f a w s f := by
  unfold peaveyref10_AtMost.f check_AtMost.f
  simp only [isCase_is, Option.bind_some]
  cases h : caseB a w s f
  · rfl
  · obtain ⟨p1, p2, p3, p4, p5, p6, p7, p8⟩ := case_in h
    simp only [if_true]
    rw [upto_is a w s f p2 p3 p4 p7 p8 (by omega) k hk]
    rfl
theorem gcd_loop : ∀ (k x y : Nat), y < k → peaveyref10_gcd.l0 k x y = some (Nat.gcd x y : Int)
  | 0, _, _, h => by omega
  | k + 1, x, y, h => by
    rw [peaveyref10_gcd.l0]
    by_cases hy : y = 0
    · subst hy
      rw [if_pos (show ((0 : Nat) : Int) = 0 from rfl), Nat.gcd_zero_right]
    · rw [if_neg (by omega), Int.tmod_eq_emod_of_nonneg (by omega), ← Int.natCast_emod, gcd_loop k y (x % y) (by have := Nat.mod_lt x (show 0 < y by omega); omega), Nat.gcd_comm y, ← Nat.gcd_rec y x, Nat.gcd_comm]
theorem chance_is (a w s f : Int) : ∃ K, ∀ k, K ≤ k → peaveyref10_Chance.f k a w s f = check_Chance.f a w s f := by
  unfold peaveyref10_Chance.f check_Chance.f
  simp only [isCase_is, Option.bind_some]
  cases h : caseB a w s f
  · exact ⟨0, fun k _ => rfl⟩
  · obtain ⟨p1, p2, p3, p4, p5, p6, p7, p8⟩ := case_in h
    refine ⟨(uptoN a w s f).toNat + 200, fun k hk => ?_⟩
    have hu := uptoN_bound p2 p3 p4 p7 p8
    have hpos := binom_pos a.toNat s.toNat (by omega)
    have hn := uptoN_nat a w s f
    simp only [if_true]
    rw [upto_is a w s f p2 p3 p4 p7 p8 (by omega) k (by omega), Option.bind_some, choices_is a s p2 k (by omega), Option.bind_some, choN_in (by omega) p5]
    unfold peaveyref10_gcd.f
    have hg := gcd_loop k (binom a.toNat s.toNat) (uptoN a w s f).toNat (by omega)
    rw [hn] at hg
    have hgp : 0 < Nat.gcd (binom a.toNat s.toNat) (uptoN a w s f).toNat := Nat.gcd_pos_of_pos_left _ hpos
    rw [hg, Option.bind_some, if_neg (by omega)]
    have d1 : uptoN a w s f / (Nat.gcd (binom a.toNat s.toNat) (uptoN a w s f).toNat : Int) ≤ uptoN a w s f := Int.ediv_le_self _ (by omega)
    have d2 : (binom a.toNat s.toNat : Int) / (Nat.gcd (binom a.toNat s.toNat) (uptoN a w s f).toNat : Int) ≤ (binom a.toNat s.toNat : Int) := Int.ediv_le_self _ (by omega)
    have d3 : 0 ≤ uptoN a w s f / (Nat.gcd (binom a.toNat s.toNat) (uptoN a w s f).toNat : Int) := Int.ediv_nonneg (by omega) (by omega)
    have d4 : 0 ≤ (binom a.toNat s.toNat : Int) / (Nat.gcd (binom a.toNat s.toNat) (uptoN a w s f).toNat : Int) := Int.ediv_nonneg (by omega) (by omega)
    rw [Int.tdiv_eq_ediv_of_nonneg (by omega), Int.tdiv_eq_ediv_of_nonneg (by omega), wrap64_in (by omega), wrap64_in (by omega)]
    rfl
end Go.Proofs.Ytmgdidhhgdpobaa.Hand

/- The numbers of a boom, by numbers; facts on the plain functions used by several statements. -/
namespace Go.Proofs.Ytmgdidhhgdpobaa.Hand
set_option linter.unusedVariables false
set_option linter.unusedSimpArgs false
open Go.RowKit Go.Proofs.YtmgdidhhgdpobaaW.PrintWords Go.Proofs.YtmgdidhhgdpobaaW.PrintLast Go.Proofs.Ytmgdidhhgdpobaa.PrR Go.Proofs.Ytmgdidhhgdpobaa.PrD

theorem u8_in {x : Int} (h : (Lit.int .u8 x).wf = true) : 0 ≤ x ∧ x ≤ 255 := by
  have := (Lit.wf_int_iff .u8 x).1 h
  exact this
theorem tmod_in {x y : Int} (h0 : 0 ≤ x) (h1 : 0 < y) : 0 ≤ Int.tmod x y ∧ Int.tmod x y < y := by
  rw [Int.tmod_eq_emod_of_nonneg h0]
  exact ⟨Int.emod_nonneg _ (by omega), Int.emod_lt_of_pos _ h1⟩
theorem boom_in (a0 a1 a2 a3 : Int) (h0 : 0 ≤ a0 ∧ a0 ≤ 255) (h1 : 0 ≤ a1 ∧ a1 ≤ 255) (h2 : 0 ≤ a2 ∧ a2 ≤ 255) (h3 : 0 ≤ a3 ∧ a3 ≤ 255) :
    ∃ a w s f, peaveylaw10_boom.f a0 a1 a2 a3 = some (a, w, s, f) ∧ 1 ≤ a ∧ a ≤ 50 ∧ 0 ≤ w ∧ w ≤ a ∧ 0 ≤ s ∧ s ≤ a ∧ 0 ≤ f ∧ f ≤ s := by
  unfold peaveylaw10_boom.f
  rw [wrap64_in (x := a0) (by omega), wrap64_in (x := a1) (by omega), wrap64_in (x := a2) (by omega), wrap64_in (x := a3) (by omega)]
  have t0 := tmod_in (x := a0) (y := 50) h0.1 (by omega)
  generalize Int.tmod a0 50 = m at *
  rw [wrap64_in (x := 1 + m) (by omega), wrap64_in (x := 1 + m + 1) (by omega)]
  have t1 := tmod_in (x := a1) (y := 1 + m + 1) h1.1 (by omega)
  have t2 := tmod_in (x := a2) (y := 1 + m + 1) h2.1 (by omega)
  generalize Int.tmod a1 (1 + m + 1) = w at *
  generalize Int.tmod a2 (1 + m + 1) = s at *
  rw [wrap64_in (x := s + 1) (by omega)]
  have t3 := tmod_in (x := a3) (y := s + 1) h3.1 (by omega)
  generalize Int.tmod a3 (s + 1) = f at *
  rw [if_neg (by omega), if_neg (by omega)]
  exact ⟨_, _, _, _, rfl, by omega, by omega, by omega, by omega, by omega, by omega, by omega, by omega⟩
theorem case_ok {a w s f : Int} (h1 : 1 ≤ a) (h2 : a ≤ 50) (h3 : 0 ≤ w) (h4 : w ≤ a) (h5 : 0 ≤ s) (h6 : s ≤ a) (h7 : 0 ≤ f) (h8 : f ≤ s) : caseB a w s f = true := by
  unfold caseB
  simp only [outB, Bool.and_eq_true, Bool.not_eq_true', Bool.or_eq_false_iff, decide_eq_false_iff_not]
  omega
theorem chance_ok {a w s f : Int} (h : caseB a w s f = true) : check_Chance.f a w s f = some (uptoN a w s f / (gcdN a w s f : Int), (binom a.toNat s.toNat : Int) / (gcdN a w s f : Int), 0) := by unfold check_Chance.f; rw [h]; rfl
theorem samples_ok {a w s f : Int} (h : caseB a w s f = true) : check_Samples.f a w s f = some (justN a w s f, 0) := by unfold check_Samples.f; rw [h]; rfl
theorem atMost_ok {a w s f : Int} (h : caseB a w s f = true) : check_AtMost.f a w s f = some (uptoN a w s f, 0) := by unfold check_AtMost.f; rw [h]; rfl
theorem choose_ok {a s : Int} (h1 : 0 ≤ a) (h2 : a ≤ 50) (h3 : 0 ≤ s) (h4 : s ≤ 50) : check_Choose.f a s = some ((binom a.toNat s.toNat : Int), 0) := by
  unfold check_Choose.f
  have e : (outB 0 50 a || outB 0 50 s) = false := by
    simp only [outB, Bool.or_eq_false_iff, decide_eq_false_iff_not]; omega
  rw [e]; rfl
end Go.Proofs.Ytmgdidhhgdpobaa.Hand
