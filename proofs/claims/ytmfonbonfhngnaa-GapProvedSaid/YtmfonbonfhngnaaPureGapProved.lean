/- GapProved: no right turning takes more logs than the bound of any runs that part the row; the one that is returned takes as many as the bound of the runs that are returned. -/
import Derived.Test.YtmfonbonfhngnaaGprov1
import Derived.Test.YtmfonbonfhngnaaGG
import Derived.Test.YtmfonbonfhngnaaGF
namespace Go.Proofs.Ytmfonbonfhngnaa.Pure
set_option linter.unusedVariables false
set_option linter.unusedSimpArgs false
open Go.RowKit Go.Proofs.Ytmfonbonfhngnaa.Gprov Go.Proofs.Ytmfonbonfhngnaa.PrA Go.Proofs.Ytmfonbonfhngnaa.PrR Go.Proofs.Ytmfonbonfhngnaa.PrL Go.Proofs.Ytmfonbonfhngnaa.Hand Go.Proofs.YtmfonbonfhngnaaW.PrintWords Go.Proofs.YtmfonbonfhngnaaW.PrintLast
set_option linter.unusedVariables false
set_option linter.unusedSimpArgs false

theorem wide_go (xs : List (List Int)) (hl : xs.length ≤ 40) (d : Nat) : ∀ (i k : Nat), i + d = xs.length → d < k → ∃ b, peaveylaw03_wide.l0 k xs i = some b ∧ (b = false → ∀ j (h : j < xs.length), i ≤ j → xs[j].length ≤ 40) := by
  induction d with
  | zero =>
    intro i k hi hk
    obtain ⟨k, rfl⟩ : ∃ q, k = q + 1 := ⟨k - 1, by omega⟩
    exact ⟨false, by rw [peaveylaw03_wide.l0, if_neg (by omega)], fun _ j h hj => by omega⟩
  | succ d ih =>
    intro i k hi hk
    obtain ⟨k, rfl⟩ : ∃ q, k = q + 1 := ⟨k - 1, by omega⟩
    have hlt : i < xs.length := by omega
    have hg : PrL.rd_L1 xs (i : Nat) = xs[i] := by simp [PrL.rd_L1, hlt]
    rw [peaveylaw03_wide.l0, if_pos (by omega), if_pos (by omega), hg]
    by_cases h : (xs[i].length : Int) > 40
    · exact ⟨true, by rw [if_pos h], fun e => absurd e (by decide)⟩
    · rw [if_neg h, wrap_succ (by omega)]
      obtain ⟨b, h1, h2⟩ := ih (i + 1) k (by omega) (by omega)
      refine ⟨b, h1, fun e j hj hij => ?_⟩
      by_cases ej : j = i
      · subst ej; omega
      · exact h2 e j hj (by omega)
theorem wide_is (xs : List (List Int)) (k : Nat) (hk : 41 ≤ k) : ∃ b, peaveylaw03_wide.f k xs = some b ∧ (b = false → ∀ x ∈ xs, x.length ≤ 40) := by
  unfold peaveylaw03_wide.f
  by_cases h : (xs.length : Int) > 40
  · exact ⟨true, by rw [if_pos h], fun e => absurd e (by decide)⟩
  · rw [if_neg h]
    obtain ⟨b, h1, h2⟩ := wide_go xs (by omega) xs.length 0 k (by omega) (by omega)
    refine ⟨b, h1, fun e x hx => ?_⟩
    obtain ⟨j, hj, rfl⟩ := List.getElem_of_mem hx
    exact h2 e j hj (by omega)
theorem proved_j2 {l t : List Int} {xs : List (List Int)} {m : Nat} (h : rowE l = 0) (hm : m ≤ 30) (hx : ∀ x ∈ xs, x.length ≤ 40) (K : Nat) (hK : 2000 ≤ K) : peaveylaw03_GapProved.j2 K l t xs m (best l m) (best l m) false = some true := by
  obtain ⟨K, rfl⟩ : ∃ q, K = q + 1 := ⟨K - 1, by omega⟩
  obtain ⟨hl, _⟩ := row_zero h
  rw [peaveylaw03_GapProved.j2, if_neg (by decide), gap_CheckTurning.f, Option.bind_some, gapRuns_ck l m xs (fun x h => by have := hx x h; omega) K (by omega), Option.bind_some, works_k]
  obtain ⟨⟨n, e⟩, hn⟩ : ∃ r, r = ckV l m t := ⟨_, rfl⟩
  obtain ⟨⟨b, e'⟩, hb⟩ : ∃ r, r = ckrV l m xs := ⟨_, rfl⟩
  rw [← hn, ← hb]
  simp only
  have h1 : e = 0 → n ≤ best l m := fun he => by
    subst he
    obtain ⟨_, g1, g2⟩ := ck_put hn.symm
    rw [g2]; exact put_best g1
  have h2 : e' = 0 → (best l m : Int) ≤ b := fun he => by
    subst he
    obtain ⟨_, g1, g2⟩ := ckr_parts hb.symm
    obtain ⟨o, k1, k2⟩ := best_put hl (k := m) hm
    rw [g2, ← k2]; exact parts_bound g1 k1
  by_cases he : e = 0
  · rw [if_pos he, if_pos (h1 he)]
    by_cases he' : e' = 0
    · rw [if_pos he', if_pos (h2 he')]; rfl
    · rw [if_neg he']; rfl
  · rw [if_neg he]
    by_cases he' : e' = 0
    · rw [if_pos he', if_pos (h2 he')]; rfl
    · rw [if_neg he']; rfl
theorem proved_all {l t : List Int} {xs : List (List Int)} {a : Int} (ha : 0 ≤ a ∧ a ≤ 255) (h : rowE l = 0) (hx : ∀ x ∈ xs, x.length ≤ 40) (K : Nat) (hK : 70002 ≤ K) : peaveylaw03_GapProved.j0 K l a t xs false = some true := by
  obtain ⟨K, rfl⟩ : ∃ q, K = q + 2 := ⟨K - 2, by omega⟩
  obtain ⟨m, hm, hm2⟩ := pockets_is ha
  obtain ⟨out, t1, t2, t3⟩ := turning_is h (m := (m : Int)) (by omega) (by omega) (K + 1) (by omega)
  obtain ⟨R, r1, r2, r3, r4, r5⟩ := runs_is h (m := (m : Int)) (by omega) (by omega) (K + 1) (by omega)
  rw [Int.toNat_natCast] at t3 r4
  have ho := open_fine h (m := (m : Int)) (by omega) (by omega)
  rw [show K + 2 = (K + 1) + 1 from rfl, peaveylaw03_GapProved.j0, if_neg (by decide), hm, Option.bind_some, t1, Option.bind_some, r1, Option.bind_some]
  simp only [if_true]
  rw [show decide ((R.length : Int) > 30) = false from decide_eq_false (by omega), peaveylaw03_GapProved.j1, if_neg (by decide), gap_CheckTurning.f, put_ck ho t2, Option.bind_some, gapRuns_ck l m R (fun x h => by have := r5 x h; omega) K (by omega), refTurning_is l m out K (by omega), put_ck ho t2, refRuns_ck l m R (fun x h => by have := r5 x h; omega) K (by omega), parts_ckr ho r3 r2]
  simp only [Option.bind_some, if_true, t3, r4]
  rw [show (((best l m : Nat) : Int) != (best l m : Nat)) = false by simp]
  exact proved_j2 h hm2 hx K (by omega)
theorem proved_f (l : List Int) (a : Int) (t : List Int) (xs : List (List Int)) (ha : 0 ≤ a ∧ a ≤ 255) : peaveylaw03_GapProved.f 80000 l a t xs = some true := by
  have triv : peaveylaw03_GapProved.j0 80000 l a t xs true = some true := by
    rw [peaveylaw03_GapProved.j0, if_pos rfl, works_k]; rfl
  unfold peaveylaw03_GapProved.f
  rw [fine_is l 80000 (by omega), Option.bind_some]
  by_cases h : rowE l = 0
  · rw [if_pos (decide_eq_true h)]
    by_cases ht : (t.length : Int) > 40
    · rw [if_pos ht]; exact triv
    · rw [if_neg ht]
      obtain ⟨b, h1, h2⟩ := wide_is xs 80000 (by omega)
      rw [h1, Option.bind_some]
      cases b
      · exact proved_all ha h (h2 rfl) 80000 (by omega)
      · exact triv
  · rw [if_neg (by rw [decide_eq_true_eq]; exact h)]; exact triv
end Go.Proofs.Ytmfonbonfhngnaa.Pure
