/- CheckTurned: for all numbers of a boom, if wrong logs are taken for right ones there are as many samples with what is left of the size found; and as many samples as of the logs left out. -/
import Derived.Test.YtmgdidhhgdpobaaPturn1
import Derived.Test.YtmgdidhhgdpobaaHD
namespace Go.Proofs.Ytmgdidhhgdpobaa.Pure
open Go.RowKit Go.Proofs.Ytmgdidhhgdpobaa.Pturn Go.Proofs.Ytmgdidhhgdpobaa.PrR Go.Proofs.Ytmgdidhhgdpobaa.PrD Go.Proofs.Ytmgdidhhgdpobaa.Hand Go.Proofs.YtmgdidhhgdpobaaW.PrintWords Go.Proofs.YtmgdidhhgdpobaaW.PrintLast

theorem CheckTurned : peaveylaw10_CheckTurned.Pure := by
  intro a0 a1 a2 a3 w0 w1 w2 w3
  obtain ⟨a, w, s, f, hb, p1, p2, p3, p4, p5, p6, p7, p8⟩ := boom_in a0 a1 a2 a3 (u8_in w0) (u8_in w1) (u8_in w2) (u8_in w3)
  unfold peaveylaw10_CheckTurned.f
  rw [hb, Option.bind_some]
  dsimp only
  rw [wrap64_in (x := a - w) (by omega), wrap64_in (x := s - f) (by omega), wrap64_in (x := a - s) (by omega)]
  rw [samples_ok (case_ok p1 p2 p3 p4 p5 p6 p7 p8), samples_ok (case_ok (w := a - w) (f := s - f) p1 p2 (by omega) (by omega) p5 p6 (by omega) (by omega)), choose_ok (by omega) p2 p5 (by omega), choose_ok (s := a - s) (by omega) p2 (by omega) (by omega)]
  simp only [Option.bind_some]
  have e1 : justN a w s f = justN a (a - w) s (s - f) := by
    unfold justN
    rw [show a - (a - w) = w by omega, show s - (s - f) = f by omega, Nat.mul_comm]
  have e2 : (binom a.toNat s.toNat : Int) = (binom a.toNat (a - s).toNat : Int) := by
    rw [binom_symm a.toNat s.toNat (by omega), show (a - s).toNat = a.toNat - s.toNat by omega]
  rw [← e1, ← e2]
  simp only [if_true, peaveylaw10_Works.f, Option.bind_some]
end Go.Proofs.Ytmgdidhhgdpobaa.Pure
