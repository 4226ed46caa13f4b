/- CheckMore: for all numbers of a boom, with one more wrong log, or one more in the sample, the chance to find at most so many is not greater; with one more found it is not less. -/
import Derived.Test.YtmgdidhhgdpobaaPmore2
import Derived.Test.YtmgdidhhgdpobaaHD
import Derived.Test.YtmgdidhhgdpobaaHRare
namespace Go.Proofs.Ytmgdidhhgdpobaa.Pure
set_option linter.unusedVariables false
set_option linter.unusedSimpArgs false
open Go.RowKit Go.Proofs.Ytmgdidhhgdpobaa.Pmore Go.Proofs.Ytmgdidhhgdpobaa.PrR Go.Proofs.Ytmgdidhhgdpobaa.PrD Go.Proofs.Ytmgdidhhgdpobaa.Hand Go.Proofs.YtmgdidhhgdpobaaW.PrintWords Go.Proofs.YtmgdidhhgdpobaaW.PrintLast

theorem parts (m n : Nat) (hm : 0 < m) : ∃ g p q, Nat.gcd m n = g ∧ 0 < g ∧ 0 < p ∧ m = g * p ∧ n = g * q := by
  obtain ⟨p, hp⟩ := Nat.gcd_dvd_left m n
  obtain ⟨q, hq⟩ := Nat.gcd_dvd_right m n
  have hg := Nat.gcd_pos_of_pos_left n hm
  exact ⟨Nat.gcd m n, p, q, rfl, hg, Nat.pos_of_mul_pos_left (by rw [← hp]; exact hm), hp, hq⟩
/-- a fraction in least terms -/
def Least (U B p q : Nat) : Prop := ∃ g, 0 < g ∧ 0 < q ∧ p ≤ q ∧ q ≤ 1125899906842624 ∧ U = g * p ∧ B = g * q
theorem chance_is (a w s f : Nat) (h1 : 1 ≤ a) (h2 : a ≤ 50) (h3 : w ≤ a) (h4 : s ≤ a) (h5 : f ≤ s) : ∃ p q : Nat, peaveylaw10_chance.f a w s f = some ((p : Int), (q : Int), true) ∧ Least (UU a s f w) (binom a s) p q := by
  have hb := binom_le50 a s h2
  have hle := UU_le a s f w h5 h3
  obtain ⟨g, q, p, e1, e2, e3, e4, e5⟩ := parts (binom a s) (UU a s f w) (binom_pos a s h4)
  have hpq : p ≤ q := Nat.le_of_mul_le_mul_left (by rw [← e4, ← e5]; exact hle) e2
  have hq : q ≤ binom a s := by rw [e4]; exact Nat.le_mul_of_pos_left q e2
  refine ⟨p, q, ?_, g, e2, e3, hpq, by omega, e5, e4⟩
  unfold peaveylaw10_chance.f
  rw [chance_ok (case_ok (by omega) (by omega) (by omega) (by omega) (by omega) (by omega) (by omega) (by omega))]
  unfold gcdN
  rw [uptoN_UU a w s f h3]
  simp only [Int.toNat_natCast, Option.bind_some]
  have d1 : ((UU a s f w : Nat) : Int) / ((Nat.gcd (binom a s) (UU a s f w) : Nat) : Int) = (p : Int) := by rw [e1, ← Int.natCast_ediv, Nat.div_eq_of_eq_mul_right e2 e5]
  have d2 : ((binom a s : Nat) : Int) / ((Nat.gcd (binom a s) (UU a s f w) : Nat) : Int) = (q : Int) := by rw [e1, ← Int.natCast_ediv, Nat.div_eq_of_eq_mul_right e2 e4]
  rw [d1, d2]
  rw [if_true, if_pos (by omega), if_pos (by omega), decide_eq_true (by omega)]
theorem less_ok {U B p q U' B' p' q' : Nat} (h : Least U B p q) (h' : Least U' B' p' q') (hx : U * B' ≤ U' * B) : peaveylaw10_less.f p q p' q' = some true := by
  obtain ⟨g, g0, q0, pq, qb, e1, e2⟩ := h
  obtain ⟨g', g0', q0', pq', qb', e1', e2'⟩ := h'
  have hc : p * q' ≤ p' * q := by
    rw [e1, e2, e1', e2'] at hx
    have l : g * p * (g' * q') = (g * g') * (p * q') := by simp only [Nat.mul_comm, Nat.mul_left_comm, Nat.mul_assoc]
    have r : g' * p' * (g * q) = (g * g') * (p' * q) := by simp only [Nat.mul_comm, Nat.mul_left_comm, Nat.mul_assoc]
    rw [l, r] at hx
    exact Nat.le_of_mul_le_mul_left hx (Nat.mul_pos g0 g0')
  unfold peaveylaw10_less.f
  rw [if_pos ⟨⟨by omega, by omega, by omega, by omega⟩, by omega, by omega, by omega, by omega⟩]
  rw [← Int.natCast_mul, ← Int.natCast_mul, decide_eq_true (by omega)]
theorem upN_stop (w v s t : Nat) (h : w < t) : ∀ d, upN w v s (t + d) = upN w v s t
  | 0 => rfl
  | d + 1 => by rw [← Nat.add_assoc, upN_succ, binom_gt w (t + d) (by omega), Nat.zero_mul, Nat.add_zero, upN_stop w v s t h d]
theorem UU_full (a s f w : Nat) (hw : w ≤ f) (hf : f ≤ s) (ha : w ≤ a) : UU a s f w = binom a s := by
  have h1 := upN_all w (a - w) s
  rw [show w + (a - w) = a by omega] at h1
  have h2 := upN_stop w (a - w) s (f + 1) (by omega) (s - f)
  rw [show f + 1 + (s - f) = s + 1 by omega, h1] at h2
  exact h2.symm
/-- one more in the sample -/
theorem more_sample (a s f w : Nat) (hs : s < a) (hf : f ≤ s) (hw : w ≤ a) : UU a (s + 1) f w * binom a s ≤ UU a s f w * binom a (s + 1) := by
  by_cases h : w ≤ f
  · rw [UU_full a s f w h hf hw, UU_full a (s + 1) f w h (by omega) hw, Nat.mul_comm]
    exact Nat.le_refl _
  · have e1 := upN_swap a w s hw (by omega) (f + 1) (by omega) (by omega)
    have e2 := upN_swap a w (s + 1) hw (by omega) (f + 1) (by omega) (by omega)
    have e3 := UU_succ a w f s (by omega) hs
    have hp := binom_pos a w hw
    unfold UU at *
    apply Nat.le_of_mul_le_mul_left _ hp
    rw [← Nat.mul_assoc, ← Nat.mul_assoc, e1, e2]
    calc binom a (s + 1) * upN (s + 1) (a - (s + 1)) w (f + 1) * binom a s = (binom a (s + 1) * binom a s) * upN (s + 1) (a - (s + 1)) w (f + 1) := by rw [Nat.mul_right_comm]
      _ ≤ (binom a (s + 1) * binom a s) * upN s (a - s) w (f + 1) := Nat.mul_le_mul_left _ e3
      _ = binom a s * upN s (a - s) w (f + 1) * binom a (s + 1) := by simp only [Nat.mul_comm, Nat.mul_left_comm, Nat.mul_assoc]
theorem CheckMore : peaveylaw10_CheckMore.Pure := by
  intro a0 a1 a2 a3 w0 w1 w2 w3
  obtain ⟨a, w, s, f, hb, p1, p2, p3, p4, p5, p6, p7, p8⟩ := boom_in a0 a1 a2 a3 (u8_in w0) (u8_in w1) (u8_in w2) (u8_in w3)
  refine ⟨2, ?_⟩
  unfold peaveylaw10_CheckMore.f
  rw [hb, Option.bind_some]
  dsimp only
  clear hb
  obtain ⟨a, rfl⟩ := Int.eq_ofNat_of_zero_le (show 0 ≤ a by omega)
  obtain ⟨w, rfl⟩ := Int.eq_ofNat_of_zero_le p3
  obtain ⟨s, rfl⟩ := Int.eq_ofNat_of_zero_le p5
  obtain ⟨f, rfl⟩ := Int.eq_ofNat_of_zero_le p7
  obtain ⟨p, q, hx, hl⟩ := chance_is a w s f (by omega) (by omega) (by omega) (by omega) (by omega)
  rw [hx, Option.bind_some]
  dsimp only
  rw [if_pos rfl]
  have part1 : peaveylaw10_CheckMore.j1 1 a w s f p q = some true := by
    rw [peaveylaw10_CheckMore.j1]
    by_cases hf : (f : Int) < (s : Int)
    · obtain ⟨p', q', hx', hl'⟩ := chance_is a w s (f + 1) (by omega) (by omega) (by omega) (by omega) (by omega)
      rw [if_pos hf, wsucc f (by omega), hx', Option.bind_some]
      dsimp only
      rw [if_pos rfl, less_ok hl hl' (Nat.mul_le_mul_right _ (upN_mono _ _ _ (by omega)))]
      rfl
    · rw [if_neg hf]; rfl
  have part0 : peaveylaw10_CheckMore.j0 2 a w s f p q = some true := by
    rw [peaveylaw10_CheckMore.j0]
    by_cases hs : (s : Int) < (a : Int)
    · obtain ⟨p', q', hx', hl'⟩ := chance_is a w (s + 1) f (by omega) (by omega) (by omega) (by omega) (by omega)
      rw [if_pos hs, wsucc s (by omega), hx', Option.bind_some]
      dsimp only
      rw [if_pos rfl, less_ok hl' hl (more_sample a s f w (by omega) (by omega) (by omega)), Option.bind_some, if_pos rfl]
      exact part1
    · rw [if_neg hs]; exact part1
  by_cases hw : (w : Int) < (a : Int)
  · obtain ⟨p', q', hx', hl'⟩ := chance_is a (w + 1) s f (by omega) (by omega) (by omega) (by omega) (by omega)
    rw [if_pos hw, wsucc w (by omega), hx', Option.bind_some]
    dsimp only
    rw [if_pos rfl, less_ok hl' hl (Nat.mul_le_mul_right _ (UU_succ a s f w (by omega) (by omega))), Option.bind_some, if_pos rfl]
    exact part0
  · rw [if_neg hw]; exact part0
end Go.Proofs.Ytmgdidhhgdpobaa.Pure
