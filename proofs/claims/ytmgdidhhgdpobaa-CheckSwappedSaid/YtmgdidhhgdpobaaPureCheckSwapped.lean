/- CheckSwapped: for all numbers of a boom, the chance is the same if the number of wrong logs and the size of the sample are exchanged. -/
import Derived.Test.YtmgdidhhgdpobaaPswap2
import Derived.Test.YtmgdidhhgdpobaaHD
namespace Go.Proofs.Ytmgdidhhgdpobaa.Pure
open Go.RowKit Go.Proofs.Ytmgdidhhgdpobaa.Pswap Go.Proofs.Ytmgdidhhgdpobaa.PrR Go.Proofs.Ytmgdidhhgdpobaa.PrD Go.Proofs.Ytmgdidhhgdpobaa.Hand Go.Proofs.YtmgdidhhgdpobaaW.PrintWords Go.Proofs.YtmgdidhhgdpobaaW.PrintLast

theorem chance_swap (a w s f : Nat) (h1 : w ≤ a) (h2 : s ≤ a) (h3 : f ≤ w) (h4 : f ≤ s) :
    uptoN a w s f / (gcdN a w s f : Int) = uptoN a s w f / (gcdN a s w f : Int) ∧ (binom a s : Int) / (gcdN a w s f : Int) = (binom a w : Int) / (gcdN a s w f : Int) := by
  have hx := upN_swap a w s h1 h2 (f + 1) (by omega) (by omega)
  have e1 : (uptoN (a : Int) (w : Int) (s : Int) (f : Int)) = ((upN w (a - w) s (f + 1) : Nat) : Int) := by
    unfold uptoN; simp only [Int.toNat_natCast]; rw [show ((a : Int) - (w : Int)).toNat = a - w by omega]
  have e2 : (uptoN (a : Int) (s : Int) (w : Int) (f : Int)) = ((upN s (a - s) w (f + 1) : Nat) : Int) := by
    unfold uptoN; simp only [Int.toNat_natCast]; rw [show ((a : Int) - (s : Int)).toNat = a - s by omega]
  unfold gcdN
  rw [e1, e2]
  simp only [Int.toNat_natCast]
  have hl := least_terms (m := binom a s) (n := upN w (a - w) s (f + 1)) (m' := binom a w) (n' := upN s (a - s) w (f + 1)) (binom_pos a s h2) (binom_pos a w h1)
    (by rw [Nat.mul_comm _ (binom a w), hx, Nat.mul_comm])
  rw [← Int.natCast_ediv, ← Int.natCast_ediv, ← Int.natCast_ediv, ← Int.natCast_ediv, hl.1, hl.2]
  exact ⟨rfl, rfl⟩
theorem CheckSwapped : peaveylaw10_CheckSwapped.Pure := by
  intro a0 a1 a2 a3 w0 w1 w2 w3
  obtain ⟨a, w, s, f, hb, p1, p2, p3, p4, p5, p6, p7, p8⟩ := boom_in a0 a1 a2 a3 (u8_in w0) (u8_in w1) (u8_in w2) (u8_in w3)
  unfold peaveylaw10_CheckSwapped.f
  rw [hb, Option.bind_some]
  dsimp only
  have hm : 0 ≤ mn f w ∧ mn f w ≤ f ∧ mn f w ≤ w := by unfold mn; split <;> omega
  generalize mn f w = g at *
  rw [chance_ok (case_ok p1 p2 p3 p4 p5 p6 hm.1 (by omega)), chance_ok (case_ok p1 p2 p5 p6 p3 p4 hm.1 (by omega)), Option.bind_some, Option.bind_some]
  obtain ⟨a, rfl⟩ := Int.eq_ofNat_of_zero_le (show 0 ≤ a by omega)
  obtain ⟨w, rfl⟩ := Int.eq_ofNat_of_zero_le p3
  obtain ⟨s, rfl⟩ := Int.eq_ofNat_of_zero_le p5
  obtain ⟨g, rfl⟩ := Int.eq_ofNat_of_zero_le hm.1
  obtain ⟨x1, x2⟩ := chance_swap a w s g (by omega) (by omega) (by omega) (by omega)
  simp only [Int.toNat_natCast, x1, x2, if_true, beq_self_eq_true, Bool.and_self, peaveylaw10_Works.f, Option.bind_some]
end Go.Proofs.Ytmgdidhhgdpobaa.Pure
