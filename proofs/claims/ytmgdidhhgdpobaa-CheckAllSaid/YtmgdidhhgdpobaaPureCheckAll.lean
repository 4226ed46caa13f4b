/- CheckAll: for all numbers of a boom, the samples with each number found are together all samples, those with at most so many are those with one fewer and those with just so many, and the chance is their part. -/
import Derived.Test.YtmgdidhhgdpobaaPall1
import Derived.Test.YtmgdidhhgdpobaaHD
namespace Go.Proofs.Ytmgdidhhgdpobaa.Pure
set_option linter.unusedVariables false
set_option linter.unusedSimpArgs false
open Go.RowKit Go.Proofs.Ytmgdidhhgdpobaa.Pall Go.Proofs.Ytmgdidhhgdpobaa.PrR Go.Proofs.Ytmgdidhhgdpobaa.PrD Go.Proofs.Ytmgdidhhgdpobaa.Hand Go.Proofs.YtmgdidhhgdpobaaW.PrintWords Go.Proofs.YtmgdidhhgdpobaaW.PrintLast

theorem parts (m n : Nat) (hm : 0 < m) : ∃ g p q, Nat.gcd m n = g ∧ 0 < g ∧ 0 < p ∧ m = g * p ∧ n = g * q := by
  obtain ⟨p, hp⟩ := Nat.gcd_dvd_left m n
  obtain ⟨q, hq⟩ := Nat.gcd_dvd_right m n
  have hg := Nat.gcd_pos_of_pos_left n hm
  exact ⟨Nat.gcd m n, p, q, rfl, hg, Nat.pos_of_mul_pos_left (by rw [← hp]; exact hm), hp, hq⟩
theorem upto_nat (a w s f : Nat) (h : w ≤ a) : uptoN (a : Int) (w : Int) (s : Int) (f : Int) = ((upN w (a - w) s (f + 1) : Nat) : Int) := by
  unfold uptoN; simp only [Int.toNat_natCast]; rw [show ((a : Int) - (w : Int)).toNat = a - w by omega]
theorem just_nat (a w s f : Nat) (h : w ≤ a) (h2 : f ≤ s) : justN (a : Int) (w : Int) (s : Int) (f : Int) = ((binom w f * binom (a - w) (s - f) : Nat) : Int) := by
  unfold justN; simp only [Int.toNat_natCast]; rw [show ((a : Int) - (w : Int)).toNat = a - w by omega, show ((s : Int) - (f : Int)).toNat = s - f by omega]
theorem all_end (B U : Nat) (hle : U ≤ B) (hbp : 0 < B) (hb : B ≤ 1125899906842624) :
    (if (B : Int) / (Nat.gcd B U : Int) < 1 then some false else if (U : Int) / (Nat.gcd B U : Int) < 0 then some false else if (U : Int) / (Nat.gcd B U : Int) > (B : Int) / (Nat.gcd B U : Int) then some false else if (B : Int) / (Nat.gcd B U : Int) = 0 then none else
      if Int.tmod (B : Int) ((B : Int) / (Nat.gcd B U : Int)) = 0 then if (U : Int) = wrap64 (wrap64 (Int.tdiv (B : Int) ((B : Int) / (Nat.gcd B U : Int))) * ((U : Int) / (Nat.gcd B U : Int))) then (peaveylaw10_Works.f).bind fun t117 => some t117 else some false else some false) = some true := by
  obtain ⟨g, p, q, hg, hg0, hp0, hm, hn⟩ := parts B U hbp
  have e1 : (U : Int) / (g : Int) = (q : Int) := by rw [← Int.natCast_ediv, Nat.div_eq_of_eq_mul_right hg0 hn]
  have e2 : (B : Int) / (g : Int) = (p : Int) := by rw [← Int.natCast_ediv, Nat.div_eq_of_eq_mul_right hg0 hm]
  rw [hg, e1, e2]
  have hqp : q ≤ p := Nat.le_of_mul_le_mul_left (by rw [← hm, ← hn]; exact hle) hg0
  have d1 : Int.tmod (B : Int) (p : Int) = 0 := by
    rw [Int.tmod_eq_emod_of_nonneg (by omega), ← Int.natCast_emod, hm, Nat.mul_mod_left]; rfl
  have d2 : Int.tdiv (B : Int) (p : Int) = (g : Int) := by
    rw [Int.tdiv_eq_ediv_of_nonneg (by omega), ← Int.natCast_ediv, hm, Nat.mul_div_cancel _ hp0]
  have hgb : g ≤ B := Nat.le_trans (Nat.le_mul_of_pos_right g hp0) (Nat.le_of_eq hm.symm)
  have d3 : wrap64 (g : Int) = (g : Int) := wrap64_in (by omega)
  have d4 : wrap64 ((g : Int) * (q : Int)) = (U : Int) := by
    rw [← Int.natCast_mul, ← hn]; exact wrap64_in (by omega)
  have c1 : ¬ (p : Int) < 1 := by omega
  have c2 : ¬ (q : Int) < 0 := by omega
  have c3 : ¬ (q : Int) > (p : Int) := by omega
  have c4 : ¬ (p : Int) = 0 := by omega
  rw [if_neg c1, if_neg c2, if_neg c3, if_neg c4, if_pos d1, d2, d3, d4, if_pos rfl]
  rfl
set_option maxRecDepth 100000 in
theorem all_loop (a w s f : Nat) (h1 : 1 ≤ a) (h2 : a ≤ 50) (h3 : w ≤ a) (h4 : s ≤ a) (h5 : f ≤ s) : ∀ (m i : Nat), i + m = s + 1 → ∀ k, 2 * m + 1 < k → peaveylaw10_CheckAll.l0 k a w s f (upN w (a - w) s i) i = some true
  | 0, i, hi, k + 1, _ => by
    have hall := upN_all w (a - w) s
    rw [show w + (a - w) = a by omega, show s + 1 = i by omega] at hall
    have hle := upN_le w (a - w) s (f + 1) (by omega)
    rw [show w + (a - w) = a by omega] at hle
    have hb := binom_le50 a s h2
    have hbp := binom_pos a s h4
    have hgt : ¬ (i : Int) ≤ (s : Int) := by omega
    rw [peaveylaw10_CheckAll.l0, if_neg hgt, choose_ok (by omega) (by omega) (by omega) (by omega), chance_ok (case_ok (by omega) (by omega) (by omega) (by omega) (by omega) (by omega) (by omega) (by omega)), atMost_ok (case_ok (by omega) (by omega) (by omega) (by omega) (by omega) (by omega) (by omega) (by omega))]
    rw [hall]
    simp only [Option.bind_some, Int.toNat_natCast, if_true]
    unfold gcdN
    rw [upto_nat a w s f h3]
    simp only [Int.toNat_natCast]
    exact all_end _ _ hle hbp hb
  | m + 1, i, hi, k + 2, hk => by
    have hs := upN_succ w (a - w) s i
    have hl := upN_le w (a - w) s (i + 1) (by omega)
    rw [show w + (a - w) = a by omega] at hl
    have hb := binom_le50 a s h2
    have hle : (i : Int) ≤ (s : Int) := by omega
    have hj := just_nat a w s i h3 (by omega)
    have c1 : ¬ ((binom w i * binom (a - w) (s - i) : Nat) : Int) < 0 := by omega
    have c2 : ¬ ((binom w i * binom (a - w) (s - i) : Nat) : Int) > 1125899906842624 := by omega
    rw [peaveylaw10_CheckAll.l0, if_pos hle, samples_ok (case_ok (by omega) (by omega) (by omega) (by omega) (by omega) (by omega) (by omega) (by omega)), atMost_ok (case_ok (by omega) (by omega) (by omega) (by omega) (by omega) (by omega) (by omega) (by omega))]
    simp only [Option.bind_some, if_true]
    rw [hj, if_neg c1, decide_eq_false c2, peaveylaw10_CheckAll.j1, if_neg (by decide), wadd _ _ _ hs (by omega), upto_nat a w s i h3, if_pos rfl, wsucc i (by omega)]
    exact all_loop a w s f h1 h2 h3 h4 h5 m (i + 1) (by omega) k (by omega)
theorem CheckAll : peaveylaw10_CheckAll.Pure := by
  intro a0 a1 a2 a3 w0 w1 w2 w3
  obtain ⟨a, w, s, f, hb, p1, p2, p3, p4, p5, p6, p7, p8⟩ := boom_in a0 a1 a2 a3 (u8_in w0) (u8_in w1) (u8_in w2) (u8_in w3)
  obtain ⟨a, rfl⟩ := Int.eq_ofNat_of_zero_le (show 0 ≤ a by omega)
  obtain ⟨w, rfl⟩ := Int.eq_ofNat_of_zero_le p3
  obtain ⟨s, rfl⟩ := Int.eq_ofNat_of_zero_le p5
  obtain ⟨f, rfl⟩ := Int.eq_ofNat_of_zero_le p7
  refine ⟨2 * (s + 1) + 2, ?_⟩
  unfold peaveylaw10_CheckAll.f
  rw [hb, Option.bind_some]
  exact all_loop a w s f (by omega) (by omega) (by omega) (by omega) (by omega) (s + 1) 0 (by omega) _ (by omega)
end Go.Proofs.Ytmgdidhhgdpobaa.Pure
