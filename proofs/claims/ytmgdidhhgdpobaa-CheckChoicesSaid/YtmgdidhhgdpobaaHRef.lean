/- The reference's numbers are the plain ones: choices, samples, those with at most so many, the greatest common divisor. -/
import Derived.Test.YtmgdidhhgdpobaaHPlan
import Derived.Test.YtmgdidhhgdpobaaPrR1
namespace Go.Proofs.Ytmgdidhhgdpobaa.Hand
open Go.RowKit Go.Proofs.YtmgdidhhgdpobaaW.PrintWords Go.Proofs.YtmgdidhhgdpobaaW.PrintLast Go.Proofs.Ytmgdidhhgdpobaa.PrR

theorem binom_absorb : ∀ n k, (k + 1) * binom (n + 1) (k + 1) = (n + 1) * binom n k
  | 0, 0 => rfl
  | 0, k + 1 => by rw [binom_gt 1 (k + 2) (by omega), binom_gt 0 (k + 1) (by omega)]; simp
  | n + 1, 0 => by
    have := binom_absorb n 0
    rw [binom_zero] at this ⊢
    rw [binom_succ, binom_zero]
    omega
  | n + 1, k + 1 => by
    have h1 := binom_absorb n k
    have h2 := binom_absorb n (k + 1)
    rw [binom_succ (n + 1) (k + 1), Nat.mul_add, h2, Nat.add_mul (k + 1) 1, h1, Nat.one_mul, binom_succ n k, Nat.mul_add (n + 1 + 1)]
    have e1 : (n + 1 + 1) * binom n k = (n + 1) * binom n k + binom n k := by rw [Nat.add_mul, Nat.one_mul]
    have e2 : (n + 1 + 1) * binom n (k + 1) = (n + 1) * binom n (k + 1) + binom n (k + 1) := by rw [Nat.add_mul, Nat.one_mul]
    rw [e1, e2]
    omega
/-- each number from the one before it -/
theorem binom_next (n k : Nat) (h : k ≤ n) : binom n k * (n - k) = binom n (k + 1) * (k + 1) := by
  have h1 := binom_absorb n k
  rw [binom_succ, Nat.mul_add] at h1
  have h2 : (n + 1) * binom n k = (k + 1) * binom n k + (n - k) * binom n k := by rw [← Nat.add_mul]; congr 1; omega
  rw [h2] at h1
  rw [Nat.mul_comm (binom n k), Nat.mul_comm (binom n (k + 1))]
  omega

theorem wsub (n i : Nat) (h : i ≤ n) (hn : n ≤ 1000) : wrap64 ((n : Int) - i) = ((n - i : Nat) : Int) := by rw [wrap64_in (by omega)]; omega
theorem wsucc (i : Nat) (hn : i ≤ 100000) : wrap64 ((i : Int) + 1) = ((i + 1 : Nat) : Int) := by rw [wrap64_in (by omega)]; omega
theorem wadd (a b c : Nat) (h : c = a + b) (hn : c ≤ 1125899906842624) : wrap64 ((a : Int) + (b : Int)) = (c : Int) := by rw [wrap64_in (by omega)]; omega
theorem wmul (a b c : Nat) (h : a * b = c) (hn : c ≤ 57420895248973824) : wrap64 ((a : Int) * (b : Int)) = (c : Int) := by
  rw [← Int.natCast_mul, h, wrap64_in (by omega)]
/-- what Choices comes to -/
def choN (n k : Int) : Int := if k < 0 ∨ n < k then 0 else (binom n.toNat k.toNat : Int)
theorem choices_loop (n s : Nat) (hn : n ≤ 50) (hs : s ≤ n) : ∀ (m i : Nat), i + m = s → ∀ k, m < k → peaveyref10_Choices.l0 k n s (binom n i) i = some (binom n s : Int)
  | 0, i, hi, k + 1, _ => by
    rw [peaveyref10_Choices.l0, if_neg (by omega)]
    rw [show i = s by omega]
  | m + 1, i, hi, k + 1, hk => by
    have hb := binom_le50 n i hn
    have hb2 := binom_le50 n (i + 1) hn
    have hx := binom_next n i (by omega)
    have h51 : i + 1 ≤ 51 := by omega
    have hle : binom n (i + 1) * (i + 1) ≤ 57420895248973824 := Nat.le_trans (Nat.mul_le_mul hb2 h51) (by decide)
    have hlt : (i : Int) < (s : Int) := by omega
    have hne : ¬ ((i + 1 : Nat) : Int) = 0 := by omega
    have hnn : 0 ≤ ((binom n (i + 1) * (i + 1) : Nat) : Int) := Int.natCast_nonneg _
    have hbw : -9223372036854775808 ≤ ((binom n (i + 1) : Nat) : Int) ∧ ((binom n (i + 1) : Nat) : Int) ≤ 9223372036854775807 := by omega
    rw [peaveyref10_Choices.l0, if_pos hlt, wsucc i (by omega), if_neg hne, wsub n i (by omega) (by omega), wmul _ _ _ hx hle, Int.tdiv_eq_ediv_of_nonneg hnn, ← Int.natCast_ediv, Nat.mul_div_cancel _ (by omega), wrap64_in hbw]
    exact choices_loop n s hn hs m (i + 1) (by omega) k (by omega)
theorem choices_is (n s : Int) (hn : n ≤ 50) (k : Nat) (hk : 60 ≤ k) : peaveyref10_Choices.f k n s = some (choN n s) := by
  obtain ⟨k, rfl⟩ : ∃ j, k = j + 1 := ⟨k - 1, by omega⟩
  unfold peaveyref10_Choices.f choN
  by_cases h1 : s < 0
  · rw [if_pos h1, if_pos (.inl h1)]; rfl
  · rw [if_neg h1]
    by_cases h2 : n < s
    · rw [if_pos (.inr h2), decide_eq_true h2]; rfl
    · rw [if_neg (by omega), decide_eq_false h2]
      obtain ⟨s, rfl⟩ := Int.eq_ofNat_of_zero_le (show 0 ≤ s by omega)
      obtain ⟨n, rfl⟩ := Int.eq_ofNat_of_zero_le (show 0 ≤ n by omega)
      have := choices_loop n s (by omega) (by omega) s 0 (by omega) k (by omega)
      rw [binom_zero] at this
      exact this
theorem choN_nat (n k : Nat) : choN n k = (binom n k : Int) := by
  unfold choN
  by_cases h : n < k
  · rw [if_pos (.inr (by omega)), binom_gt n k h]; rfl
  · rw [if_neg (by omega)]; rfl
theorem choN_in {n k : Int} (h0 : 0 ≤ n) (h1 : 0 ≤ k) : choN n k = (binom n.toNat k.toNat : Int) := by
  obtain ⟨n, rfl⟩ := Int.eq_ofNat_of_zero_le h0
  obtain ⟨k, rfl⟩ := Int.eq_ofNat_of_zero_le h1
  exact choN_nat n k

theorem justN_le {a w s f : Int} (h1 : 0 ≤ w) (h2 : w ≤ a) (h3 : 0 ≤ f) (h4 : f ≤ s) : justN a w s f ≤ (binom a.toNat s.toNat : Int) ∧ 0 ≤ justN a w s f := by
  have := term_le w.toNat (a - w).toNat s.toNat f.toNat (by omega)
  rw [show w.toNat + (a - w).toNat = a.toNat by omega] at this
  unfold justN
  rw [show (s - f).toNat = s.toNat - f.toNat by omega]
  omega
theorem just_is (a w s f : Int) (ha : a ≤ 50) (h1 : 0 ≤ w) (h2 : w ≤ a) (h3 : 0 ≤ f) (h4 : f ≤ s) (h5 : s ≤ 50) (k : Nat) (hk : 60 ≤ k) : peaveyref10_Just.f k a w s f = some (justN a w s f) := by
  have hj := justN_le h1 h2 h3 h4
  have hb := binom_le50 a.toNat s.toNat (by omega)
  unfold peaveyref10_Just.f
  rw [choices_is w f (by omega) k hk, Option.bind_some, wrap64_in (x := a - w) (by omega), wrap64_in (x := s - f) (by omega), choices_is (a - w) (s - f) (by omega) k hk, Option.bind_some, choN_in h1 h3, choN_in (by omega) (by omega)]
  rw [← Int.natCast_mul]
  have e : ((binom w.toNat f.toNat * binom (a - w).toNat (s - f).toNat : Nat) : Int) = justN a w s f := rfl
  rw [e, wrap64_in (by omega)]
theorem uptoN_bound {a w s f : Int} (ha : a ≤ 50) (h1 : 0 ≤ w) (h2 : w ≤ a) (h3 : 0 ≤ f) (h4 : f ≤ s) : 0 ≤ uptoN a w s f ∧ uptoN a w s f ≤ (binom a.toNat s.toNat : Int) ∧ binom a.toNat s.toNat ≤ 1125899906842624 := by
  have h := uptoN_le h1 h2 h3 h4
  have h' := uptoN_nat a w s f
  have hb := binom_le50 a.toNat s.toNat (by omega)
  omega
theorem upto_loop (a w s f : Nat) (ha : a ≤ 50) (h2 : w ≤ a) (h4 : f ≤ s) (h5 : s ≤ 50) : ∀ (m i : Nat), i + m = f + 1 → ∀ k, 60 + m < k → peaveyref10_UpTo.l0 k a w s f (upN w (a - w) s i) i = some (uptoN a w s f)
  | 0, i, hi, k + 1, _ => by
    rw [peaveyref10_UpTo.l0, if_neg (by omega)]
    rw [show i = f + 1 by omega]
    unfold uptoN
    simp only [Int.toNat_natCast]
    rw [show ((a : Int) - (w : Int)).toNat = a - w by omega]
  | m + 1, i, hi, k + 1, hk => by
    have hs := upN_succ w (a - w) s i
    have hl := upN_le w (a - w) s (i + 1) (by omega)
    have hb := binom_le50 (w + (a - w)) s (by omega)
    have hj := just_is a w s i (by omega) (by omega) (by omega) (by omega) (by omega) (by omega) k (by omega)
    have hv : justN a w s i = ((binom w i * binom (a - w) (s - i) : Nat) : Int) := by
      unfold justN
      simp only [Int.toNat_natCast]
      rw [show ((a : Int) - (w : Int)).toNat = a - w by omega, show ((s : Int) - (i : Int)).toNat = s - i by omega]
    have hle : (i : Int) ≤ (f : Int) := by omega
    rw [peaveyref10_UpTo.l0, if_pos hle, hj, Option.bind_some, hv, wsucc i (by omega), wadd _ _ _ hs (by omega)]
    exact upto_loop a w s f ha h2 h4 h5 m (i + 1) (by omega) k (by omega)
theorem upto_is (a w s f : Int) (ha : a ≤ 50) (h1 : 0 ≤ w) (h2 : w ≤ a) (h3 : 0 ≤ f) (h4 : f ≤ s) (h5 : s ≤ 50) (k : Nat) (hk : 120 ≤ k) : peaveyref10_UpTo.f k a w s f = some (uptoN a w s f) := by
  obtain ⟨a, rfl⟩ := Int.eq_ofNat_of_zero_le (show 0 ≤ a by omega)
  obtain ⟨w, rfl⟩ := Int.eq_ofNat_of_zero_le h1
  obtain ⟨f, rfl⟩ := Int.eq_ofNat_of_zero_le h3
  obtain ⟨s, rfl⟩ := Int.eq_ofNat_of_zero_le (show 0 ≤ s by omega)
  exact upto_loop a w s f (by omega) (by omega) (by omega) (by omega) (f + 1) 0 (by omega) k (by omega)
theorem within_is (n lo hi : Int) : peaveyref10_within.f n lo hi = some (!outB lo hi n) := by
  unfold peaveyref10_within.f
  rw [out_iff]
  by_cases h1 : n ≥ lo
  · rw [if_pos h1]
    simp [h1]
  · rw [if_neg h1]
    simp [h1]
theorem isCase_is (a w s f : Int) : peaveyref10_IsCase.f a w s f = some (caseB a w s f) := by
  unfold peaveyref10_IsCase.f caseB
  simp only [within_is, Option.bind_some]
  cases outB 1 50 a <;> cases outB 0 a w <;> cases outB 0 a s <;> cases outB 0 s f <;> rfl
theorem choose_is (n s : Int) (k : Nat) (hk : 60 ≤ k) : peaveyref10_Choose.f k n s = check_Choose.f n s := by
  unfold peaveyref10_Choose.f check_Choose.f
  simp only [within_is, Option.bind_some]
  cases h1 : outB 0 50 n <;> cases h2 : outB 0 50 s
  · have i1 := out_in h1
    have i2 := out_in h2
    simp only [Bool.not_false, if_true, Bool.or_self, Bool.false_eq_true, if_false]
    rw [choices_is n s (by omega) k hk, choN_in (by omega) (by omega)]
    rfl
  · rfl
  · rfl
  · rfl
theorem samples_is (a w s f : Int) (k : Nat) (hk : 60 ≤ k) : peaveyref10_Samples.f k a w s f = check_Samples.f a w s f := by
  unfold peaveyref10_Samples.f check_Samples.f
  simp only [isCase_is, Option.bind_some]
  cases h : caseB a w s f
  · rfl
  · obtain ⟨p1, p2, p3, p4, p5, p6, p7, p8⟩ := case_in h
    simp only [if_true]
    rw [just_is a w s f p2 p3 p4 p7 p8 (by omega) k hk]
    rfl
theorem atMost_is (a w s f : Int) (k : Nat) (hk : 120 ≤ k) : peaveyref10_AtMost.f k a w s f = check_AtMost.f a w s f := by
  unfold peaveyref10_AtMost.f check_AtMost.f
  simp only [isCase_is, Option.bind_some]
  cases h : caseB a w s f
  · rfl
  · obtain ⟨p1, p2, p3, p4, p5, p6, p7, p8⟩ := case_in h
    simp only [if_true]
    rw [upto_is a w s f p2 p3 p4 p7 p8 (by omega) k hk]
    rfl
theorem gcd_loop : ∀ (k x y : Nat), y < k → peaveyref10_gcd.l0 k x y = some (Nat.gcd x y : Int)
  | 0, _, _, h => by omega
  | k + 1, x, y, h => by
    rw [peaveyref10_gcd.l0]
    by_cases hy : y = 0
    · subst hy
      rw [if_pos (show ((0 : Nat) : Int) = 0 from rfl), Nat.gcd_zero_right]
    · rw [if_neg (by omega), Int.tmod_eq_emod_of_nonneg (by omega), ← Int.natCast_emod, gcd_loop k y (x % y) (by have := Nat.mod_lt x (show 0 < y by omega); omega), Nat.gcd_comm y, ← Nat.gcd_rec y x, Nat.gcd_comm]
theorem chance_is (a w s f : Int) : ∃ K, ∀ k, K ≤ k → peaveyref10_Chance.f k a w s f = check_Chance.f a w s f := by
  unfold peaveyref10_Chance.f check_Chance.f
  simp only [isCase_is, Option.bind_some]
  cases h : caseB a w s f
  · exact ⟨0, fun k _ => rfl⟩
  · obtain ⟨p1, p2, p3, p4, p5, p6, p7, p8⟩ := case_in h
    refine ⟨(uptoN a w s f).toNat + 200, fun k hk => ?_⟩
    have hu := uptoN_bound p2 p3 p4 p7 p8
    have hpos := binom_pos a.toNat s.toNat (by omega)
    have hn := uptoN_nat a w s f
    simp only [if_true]
    rw [upto_is a w s f p2 p3 p4 p7 p8 (by omega) k (by omega), Option.bind_some, choices_is a s p2 k (by omega), Option.bind_some, choN_in (by omega) p5]
    unfold peaveyref10_gcd.f
    have hg := gcd_loop k (binom a.toNat s.toNat) (uptoN a w s f).toNat (by omega)
    rw [hn] at hg
    have hgp : 0 < Nat.gcd (binom a.toNat s.toNat) (uptoN a w s f).toNat := Nat.gcd_pos_of_pos_left _ hpos
    rw [hg, Option.bind_some, if_neg (by omega)]
    have d1 : uptoN a w s f / (Nat.gcd (binom a.toNat s.toNat) (uptoN a w s f).toNat : Int) ≤ uptoN a w s f := Int.ediv_le_self _ (by omega)
    have d2 : (binom a.toNat s.toNat : Int) / (Nat.gcd (binom a.toNat s.toNat) (uptoN a w s f).toNat : Int) ≤ (binom a.toNat s.toNat : Int) := Int.ediv_le_self _ (by omega)
    have d3 : 0 ≤ uptoN a w s f / (Nat.gcd (binom a.toNat s.toNat) (uptoN a w s f).toNat : Int) := Int.ediv_nonneg (by omega) (by omega)
    have d4 : 0 ≤ (binom a.toNat s.toNat : Int) / (Nat.gcd (binom a.toNat s.toNat) (uptoN a w s f).toNat : Int) := Int.ediv_nonneg (by omega) (by omega)
    rw [Int.tdiv_eq_ediv_of_nonneg (by omega), Int.tdiv_eq_ediv_of_nonneg (by omega), wrap64_in (by omega), wrap64_in (by omega)]
    rfl
end Go.Proofs.Ytmgdidhhgdpobaa.Hand
