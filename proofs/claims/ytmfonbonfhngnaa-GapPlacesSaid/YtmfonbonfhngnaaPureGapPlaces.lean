/- GapPlaces: Place and the reference's Place come to the same. -/
import Derived.Test.YtmfonbonfhngnaaGpla1
import Derived.Test.YtmfonbonfhngnaaHMono
namespace Go.Proofs.Ytmfonbonfhngnaa.Pure
set_option linter.unusedVariables false
set_option linter.unusedSimpArgs false
open Go.RowKit Go.Proofs.Ytmfonbonfhngnaa.Gpla Go.Proofs.Ytmfonbonfhngnaa.PrR Go.Proofs.Ytmfonbonfhngnaa.PrL Go.Proofs.Ytmfonbonfhngnaa.Hand Go.Proofs.YtmfonbonfhngnaaW.PrintWords Go.Proofs.YtmfonbonfhngnaaW.PrintLast

theorem ints_loop (l : List Int) (hl : l.length ≤ 1000) : ∀ (m i : Nat), i + m = l.length → ∀ k, m < k → peaveylaw03_Ints.l0 k l l i = some true
  | 0, i, h, k + 1, _ => by
    have hge : ¬ (i : Int) < (l.length : Int) := by omega
    rw [peaveylaw03_Ints.l0, if_neg hge]
  | m + 1, i, h, k + 1, hk => by
    have hlt : (i : Int) < (l.length : Int) := by omega
    have h0 : (0 : Int) ≤ (i : Int) := by omega
    rw [peaveylaw03_Ints.l0, if_pos hlt, if_pos h0, if_pos hlt, if_pos rfl, IntWalk.wrap64_in _ ⟨by omega, by omega⟩]
    exact ints_loop l hl m (i + 1) (by omega) k (by omega)
theorem ints_is (l : List Int) (hl : l.length ≤ 1000) (k : Nat) (hk : 1001 ≤ k) : peaveylaw03_Ints.f k l l = some true := by
  unfold peaveylaw03_Ints.f
  rw [if_pos rfl]
  exact ints_loop l hl l.length 0 (by omega) k (by omega)
theorem plN_len : ∀ (r last out : List Int), (plN r last out).length = out.length + r.length
  | [], last, out => by simp [plN]
  | n :: r, last, out => by
    rw [plN]
    split
    · rw [plN_len r]; simp; omega
    · rw [plN_len r]; simp; omega
theorem place_same (l : List Int) (k : Nat) (hk : 31 ≤ k) : peaveyref03_Place.f k l = some (placeV l) := by
  unfold peaveyref03_Place.f placeV
  rw [refRow_is l k hk]
  show (if rowE l ≠ 0 then _ else _) = _
  by_cases h : rowE l ≠ 0
  · rw [if_pos h, if_pos h]
  · rw [if_neg h, if_neg h]
    have : l.length ≤ 30 := by
      unfold rowE at h
      by_cases g : (l.length : Int) > 30
      · rw [if_pos g] at h; exact absurd (by decide : (6 : Int) ≠ 0) h
      · omega
    rw [if_pos this]
theorem place_len (l : List Int) (hl : l.length ≤ 1000) : (placeV l).1.length ≤ 1000 := by
  unfold placeV
  split
  · exact Nat.zero_le _
  · rw [plN_len]; simpa using hl
theorem GapPlaces : peaveylaw03_GapPlaces.Pure := by
  intro l _ _ _
  refine ⟨1001, ?_⟩
  unfold peaveylaw03_GapPlaces.f peaveylaw03_great.f
  by_cases h : (l.length : Int) > 40
  · simp [h, works_k]
  · have hl : l.length ≤ 1000 := by omega
    simp only [h, gap_Place.f, place_same l 1001 (by omega), works_k, Option.bind_some]
    rw [ints_is _ (place_len l hl) 1001 (Nat.le_refl _)]
    simp
end Go.Proofs.Ytmfonbonfhngnaa.Pure
