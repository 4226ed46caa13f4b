/- CheckParted: for all numbers of two booms, the samples of both together in which so many wrong logs are found are those of each number of logs of the one, with what is left of the size of the other one. -/
import Derived.Test.YtmgdidhhgdpobaaPpart1
import Derived.Test.YtmgdidhhgdpobaaHD
import Derived.Test.YtmgdidhhgdpobaaHSums
namespace Go.Proofs.Ytmgdidhhgdpobaa.Pure
set_option linter.unusedVariables false
set_option linter.unusedSimpArgs false
open Go.RowKit Go.Proofs.Ytmgdidhhgdpobaa.Ppart Go.Proofs.Ytmgdidhhgdpobaa.PrR Go.Proofs.Ytmgdidhhgdpobaa.PrD Go.Proofs.Ytmgdidhhgdpobaa.Hand Go.Proofs.YtmgdidhhgdpobaaW.PrintWords Go.Proofs.YtmgdidhhgdpobaaW.PrintLast

theorem just_nat (a w s f : Nat) (h : w ≤ a) (h2 : f ≤ s) : justN (a : Int) (w : Int) (s : Int) (f : Int) = ((binom w f * binom (a - w) (s - f) : Nat) : Int) := by
  unfold justN; simp only [Int.toNat_natCast]; rw [show ((a : Int) - (w : Int)).toNat = a - w by omega, show ((s : Int) - (f : Int)).toNat = s - f by omega]
theorem wsub' (a b : Nat) (h : b ≤ a) (hn : a ≤ 1000) : wrap64 ((a : Int) - (b : Int)) = ((a - b : Nat) : Int) := wsub a b h hn
theorem mn_nat (a b : Nat) : mn (a : Int) (b : Int) = ((min a b : Nat) : Int) := by unfold mn; split <;> omega
theorem mx_zero (x y : Int) (h : x = y) : mx 0 x = ((y.toNat : Nat) : Int) := by unfold mx; split <;> omega
attribute [local irreducible] rng sumN pairN binom
structure Fit (a b w v s f : Nat) : Prop where
  h1 : 1 ≤ b
  h2 : b < a
  h3 : a ≤ 50
  h4 : w ≤ b
  h5 : v ≤ a - b
  h6 : s ≤ a
  h7 : f ≤ s
/-- all samples -/
def allN (a w v s f : Nat) : Nat := binom (w + v) f * binom (a - (w + v)) (s - f)
theorem part_in {a b w v s f : Nat} (F : Fit a b w v s f) (i : Nat) (hi : i ≤ min s b) (hlo : s - (a - b) ≤ i) (R K : Nat) (hK : 100 ≤ K)
    (hnext : ∀ (P : Nat), P + R = allN a w v s f → ∀ k, K ≤ k → peaveylaw10_CheckParted.l0 k a s f b w v P ((i + 1 : Nat) : Int) = some true) :
    ∀ (n j : Nat), j + n = min f i + 1 → f - (s - i) ≤ j → ∀ (P : Nat), P + rng (pairN w b v (a - b) s f i) j n + R = allN a w v s f → ∀ k, K + n < k → peaveylaw10_CheckParted.l1 k a s f b w v P i j = some true
  | 0, j, hj, hl, P, hP, k + 1, hk => by
    obtain ⟨h1, h2, h3, h4, h5, h6, h7⟩ := F
    have hgt : ¬ (j : Int) ≤ ((min f i : Nat) : Int) := by omega
    rw [peaveylaw10_CheckParted.l1, mn_nat, if_neg hgt, wsucc i (by omega)]
    rw [rng, Nat.add_zero] at hP
    exact hnext P hP k (by omega)
  | n + 1, j, hj, hl, P, hP, k + 1, hk => by
    have ih := part_in F i hi hlo R K hK hnext n (j + 1) (by omega) (by omega) (P + pairN w b v (a - b) s f i j) (by rw [← hP, rng]; omega) k (by omega)
    obtain ⟨h1, h2, h3, h4, h5, h6, h7⟩ := F
    have hle : (j : Int) ≤ ((min f i : Nat) : Int) := by omega
    have e1 : wrap64 ((a : Int) - (b : Int)) = ((a - b : Nat) : Int) := wsub' a b (by omega) (by omega)
    have e2 : wrap64 ((s : Int) - (i : Int)) = ((s - i : Nat) : Int) := wsub' s i (by omega) (by omega)
    have e3 : wrap64 ((f : Int) - (j : Int)) = ((f - j : Nat) : Int) := wsub' f j (by omega) (by omega)
    have hb := binom_le50 a s h3
    have ht := term_le (w + v) (a - (w + v)) s f h7
    rw [show w + v + (a - (w + v)) = a by omega] at ht
    have hx : pairN w b v (a - b) s f i j = binom w j * binom (b - w) (i - j) * (binom v (f - j) * binom (a - b - v) (s - i - (f - j))) := by
      unfold pairN; rw [if_pos (by omega)]
    rw [rng] at hP
    unfold allN at hP
    rw [peaveylaw10_CheckParted.l1, mn_nat, if_pos hle, e1, e2, e3]
    clear e1 e2 e3
    rw [samples_ok (case_ok (by omega) (by omega) (by omega) (by omega) (by omega) (by omega) (by omega) (by omega)), samples_ok (case_ok (by omega) (by omega) (by omega) (by omega) (by omega) (by omega) (by omega) (by omega))]
    rw [just_is b w i j (by omega) (by omega) (by omega) (by omega) (by omega) (by omega) k (by omega), just_is ((a - b : Nat) : Int) v ((s - i : Nat) : Int) ((f - j : Nat) : Int) (by omega) (by omega) (by omega) (by omega) (by omega) (by omega) k (by omega)]
    simp only [Option.bind_some, if_true]
    rw [just_nat b w i j h4 (by omega), just_nat (a - b) v (s - i) (f - j) h5 (by omega)]
    rw [wmul _ _ _ hx.symm (by omega), wadd _ _ _ rfl (by omega), wsucc j (by omega)]
    exact ih
theorem part_out {a b w v s f : Nat} (F : Fit a b w v s f) : ∀ (m i : Nat), i + m = min s b + 1 → s - (a - b) ≤ i → ∀ (P : Nat), P + rng (fun i => sumN (pairN w b v (a - b) s f i) (f + 1)) i m = allN a w v s f → ∀ k, 100 + (m + 1) * 60 < k →
    peaveylaw10_CheckParted.l0 k a s f b w v P i = some true := by
  intro m
  induction m with
  | zero =>
    intro i hi hlo P hP k hk
    obtain ⟨k, rfl⟩ : ∃ j, k = j + 1 := ⟨k - 1, by omega⟩
    obtain ⟨h1, h2, h3, h4, h5, h6, h7⟩ := F
    have hgt : ¬ (i : Int) ≤ ((min s b : Nat) : Int) := by omega
    have hw : wrap64 ((w : Int) + (v : Int)) = ((w + v : Nat) : Int) := by rw [wrap64_in (by omega)]; omega
    rw [peaveylaw10_CheckParted.l0, mn_nat, if_neg hgt, hw]
    clear hw
    rw [samples_ok (case_ok (by omega) (by omega) (by omega) (by omega) (by omega) (by omega) (by omega) (by omega)), just_nat a (w + v) s f (by omega) h7]
    rw [rng, Nat.add_zero] at hP
    unfold allN at hP
    rw [← hP]
    simp only [Option.bind_some, if_true, peaveylaw10_Works.f]
  | succ m IH =>
    intro i hi hlo P hP k hk
    obtain ⟨k, rfl⟩ : ∃ j, k = j + 1 := ⟨k - 1, by omega⟩
    have q1 : i + 1 + m = min s b + 1 := by omega
    have q2 : s - (a - b) ≤ i + 1 := by omega
    obtain ⟨R, hR⟩ : ∃ R, R = rng (fun i => sumN (pairN w b v (a - b) s f i) (f + 1)) (i + 1) m := ⟨_, rfl⟩
    have ih : ∀ (P : Nat), P + R = allN a w v s f → ∀ k, 100 + (m + 1) * 60 + 1 ≤ k → peaveylaw10_CheckParted.l0 k a s f b w v P ((i + 1 : Nat) : Int) = some true := by
      intro P' hP' k' hk'
      rw [hR] at hP'
      exact IH (i + 1) q1 q2 P' hP' k' hk'
    have F' := F
    obtain ⟨h1, h2, h3, h4, h5, h6, h7⟩ := F
    have hle : (i : Int) ≤ ((min s b : Nat) : Int) := by omega
    rw [peaveylaw10_CheckParted.l0, mn_nat, if_pos hle, wsub' s i (by omega) (by omega), mx_zero _ _ (wrap64_in (by omega))]
    rw [rng, ← parted_inner w b v (a - b) s f i h7 (by omega)] at hP
    rw [← hR] at hP
    rw [show ((f : Int) - ((s - i : Nat) : Int)).toNat = f - (s - i) by omega]
    exact part_in F' i (by omega) hlo R (100 + (m + 1) * 60 + 1) (by omega) ih (min f i + 1 - (f - (s - i))) (f - (s - i)) (by omega) (by omega) P (by omega) k (by omega)
theorem CheckParted : peaveylaw10_CheckParted.Pure := by
  intro a0 a1 a2 a3 a4 a5 w0 w1 w2 w3 w4 w5
  obtain ⟨a, z, s, f, hb, p1, p2, _, _, p5, p6, p7, p8⟩ := boom_in a0 0 a4 a5 (u8_in w0) (by omega) (u8_in w4) (u8_in w5)
  refine ⟨10000, ?_⟩
  unfold peaveylaw10_CheckParted.f
  rw [hb, Option.bind_some]
  dsimp only
  have q1 := u8_in w1
  have q2 := u8_in w2
  have q3 := u8_in w3
  by_cases ha : a < 2
  · rw [if_pos ha]; rfl
  · rw [if_neg ha, wrap64_in (x := a1) (by omega), wrap64_in (x := a2) (by omega), wrap64_in (x := a3) (by omega), wrap64_in (x := a - 1) (by omega)]
    have t1 := tmod_in (x := a1) (y := a - 1) q1.1 (by omega)
    generalize Int.tmod a1 (a - 1) = b1 at *
    rw [wrap64_in (x := 1 + b1) (by omega)]
    obtain ⟨b, hbe⟩ : ∃ b, b = 1 + b1 := ⟨_, rfl⟩
    rw [← hbe]
    rw [wrap64_in (x := b + 1) (by omega), wrap64_in (x := a - b) (by omega), wrap64_in (x := a - b + 1) (by omega)]
    have t2 := tmod_in (x := a2) (y := b + 1) q2.1 (by omega)
    have t3 := tmod_in (x := a3) (y := a - b + 1) q3.1 (by omega)
    generalize Int.tmod a2 (b + 1) = w at *
    generalize Int.tmod a3 (a - b + 1) = v at *
    rw [if_neg (by omega), if_neg (by omega), if_neg (by omega), mx_zero _ _ (wrap64_in (x := s - (a - b)) (by omega))]
    obtain ⟨a, rfl⟩ := Int.eq_ofNat_of_zero_le (show 0 ≤ a by omega)
    obtain ⟨b, rfl⟩ := Int.eq_ofNat_of_zero_le (show 0 ≤ b by omega)
    obtain ⟨w, rfl⟩ := Int.eq_ofNat_of_zero_le t2.1
    obtain ⟨v, rfl⟩ := Int.eq_ofNat_of_zero_le t3.1
    obtain ⟨s, rfl⟩ := Int.eq_ofNat_of_zero_le p5
    obtain ⟨f, rfl⟩ := Int.eq_ofNat_of_zero_le p7
    rw [show ((s : Int) - ((a : Int) - (b : Int))).toNat = s - (a - b) by omega]
    refine part_out ⟨by omega, by omega, by omega, by omega, by omega, by omega, by omega⟩ (min s b + 1 - (s - (a - b))) (s - (a - b)) (by omega) (by omega) 0 ?_ 10000 (by have : min s b + 1 - (s - (a - b)) ≤ 51 := (by omega); omega)
    unfold allN
    rw [Nat.zero_add, parted_sum w b v (a - b) s f (by omega) (by omega) (by omega) (by omega), show b + (a - b) = a by omega]
end Go.Proofs.Ytmgdidhhgdpobaa.Pure
