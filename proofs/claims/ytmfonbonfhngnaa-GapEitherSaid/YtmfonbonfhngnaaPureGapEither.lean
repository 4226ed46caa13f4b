/- GapEither: all logs can be turned into some pockets, or there is a run with more logs, not both. -/
import Derived.Test.YtmfonbonfhngnaaGeith1
import Derived.Test.YtmfonbonfhngnaaGG
import Derived.Test.YtmfonbonfhngnaaGF
namespace Go.Proofs.Ytmfonbonfhngnaa.Pure
set_option linter.unusedVariables false
set_option linter.unusedSimpArgs false
open Go.RowKit Go.Proofs.Ytmfonbonfhngnaa.Geith Go.Proofs.Ytmfonbonfhngnaa.PrA Go.Proofs.Ytmfonbonfhngnaa.PrR Go.Proofs.Ytmfonbonfhngnaa.PrL Go.Proofs.Ytmfonbonfhngnaa.Hand Go.Proofs.YtmfonbonfhngnaaW.PrintWords Go.Proofs.YtmfonbonfhngnaaW.PrintLast
set_option linter.unusedVariables false
set_option linter.unusedSimpArgs false

theorem full_iff {l out : List Int} {m : Nat} (hl : l.length ≤ 30) (hm : m ≤ 30) (hp : Put l out m) (hc : cntO out = best l m) : cntO out = l.length ↔ lines l ≤ m := by
  constructor
  · intro h; exact lines_le hp (cnt_full hp.len h)
  · intro h
    rw [hc, best_all l h]
theorem either_j3 {l t : List Int} {m : Nat} (hl : l.length ≤ 30) (K : Nat) (hK : 1 ≤ K) : peaveylaw03_GapEither.j3 K l t m (lines l) false = some true := by
  obtain ⟨K, rfl⟩ : ∃ q, K = q + 1 := ⟨K - 1, by omega⟩
  rw [peaveylaw03_GapEither.j3, if_neg (by decide), gap_CheckTurning.f, Option.bind_some, works_k]
  obtain ⟨⟨n, e⟩, hn⟩ : ∃ r, r = ckV l m t := ⟨_, rfl⟩
  rw [← hn]
  simp only
  by_cases he : e = 0
  · rw [if_pos he]
    subst he
    obtain ⟨_, g1, g2⟩ := ck_put hn.symm
    by_cases hlt : n < (l.length : Int)
    · rw [if_pos hlt]; rfl
    · rw [if_neg hlt]
      have hb := put_best g1
      have hbl := best_le l m
      have := lines_le g1 (cnt_full g1.len (by omega))
      rw [if_pos (by omega)]; rfl
  · rw [if_neg he]; rfl
theorem either_j0 {l x t : List Int} {a : Int} (ha : 0 ≤ a ∧ a ≤ 255) (h : rowE l = 0) (hx : x.length ≤ 40) (K : Nat) (hK : 70010 ≤ K) : peaveylaw03_GapEither.j0 K l a x t false = some true := by
  obtain ⟨K, rfl⟩ : ∃ q, K = q + 3 := ⟨K - 3, by omega⟩
  obtain ⟨hl, _⟩ := row_zero h
  obtain ⟨m, hm, hm2⟩ := pockets_is ha
  obtain ⟨out, t1, t2, t3⟩ := turning_is h (m := (m : Int)) (by omega) (by omega) (K + 2) (by omega)
  rw [Int.toNat_natCast] at t3
  obtain ⟨y, y1, y2, y3⟩ := run_is h
  have ho := open_fine h (m := (m : Int)) (by omega) (by omega)
  have hck := put_ck ho t2
  have hll := lines_le_len l
  have hcr : crV l (natsI y) = 0 := by unfold crV; rw [if_neg (by omega), run_ok y2]
  have hyl : (natsI y).length ≤ 1000 := by rw [natsI_len, y3]; omega
  have hf := full_iff hl hm2 t2 t3
  rw [show K + 3 = (K + 2) + 1 from rfl, peaveylaw03_GapEither.j0, if_neg (by decide), hm, Option.bind_some, gap_Fewest.f, fewV_is h hl, Option.bind_some, gap_Run.f, y1, Option.bind_some, t1, Option.bind_some]
  simp only [if_true]
  rw [if_pos (by rw [natsI_len, y3]), refRun_is hyl (K + 2) (by omega), hcr, Option.bind_some, if_pos rfl, gapRun_is hyl (K + 2) (by omega), hcr, Option.bind_some]
  rw [show ((0 : Int) != 0) = false from rfl, show K + 2 = (K + 1) + 1 from rfl, peaveylaw03_GapEither.j1, if_neg (by decide), gap_CheckTurning.f, hck, Option.bind_some, refTurning_is l m out (K + 1) (by omega), hck, Option.bind_some]
  simp only [if_true]
  have hq : ((cntO out == (l.length : Int)) != decide (((lines l : Nat) : Int) ≤ (m : Int))) = false := by
    by_cases c : lines l ≤ m
    · have h1 := hf.2 c
      rw [show (cntO out == (l.length : Int)) = true from beq_iff_eq.2 h1, show decide (((lines l : Nat) : Int) ≤ (m : Int)) = true from decide_eq_true (by omega)]; rfl
    · have h1 : cntO out ≠ l.length := fun hh => c (hf.1 hh)
      rw [show (cntO out == (l.length : Int)) = false from beq_eq_false_iff_ne.2 h1, show decide (((lines l : Nat) : Int) ≤ (m : Int)) = false from decide_eq_false (by omega)]; rfl
  rw [hq, peaveylaw03_GapEither.j2, if_neg (by decide), gapRun_is (by omega) K (by omega), Option.bind_some]
  by_cases hc : crV l x = 0
  · rw [if_pos hc]
    have := run_lines hc
    rw [show decide ((x.length : Int) > ((lines l : Nat) : Int)) = false from decide_eq_false (by omega)]
    exact either_j3 hl K (by omega)
  · rw [if_neg hc]
    exact either_j3 hl K (by omega)
theorem GapEither : peaveylaw03_GapEither.Pure := by
  intro l a x t _ _ _ ha _ _ _ _ _ _
  have ha' := wf_u8 ha
  refine ⟨80000, ?_⟩
  have triv : peaveylaw03_GapEither.j0 80000 l a x t true = some true := by
    rw [peaveylaw03_GapEither.j0, if_pos rfl, works_k]; rfl
  unfold peaveylaw03_GapEither.f
  rw [fine_is l 80000 (by omega), Option.bind_some]
  by_cases h : rowE l = 0
  · rw [if_pos (decide_eq_true h)]
    by_cases hx : (x.length : Int) > 40
    · rw [if_pos hx]; exact triv
    · rw [if_neg hx]
      cases decide ((t.length : Int) > 40)
      · exact either_j0 ha' h (by omega) 80000 (by omega)
      · exact triv
  · rw [if_neg (by rw [decide_eq_true_eq]; exact h)]; exact triv
end Go.Proofs.Ytmfonbonfhngnaa.Pure
