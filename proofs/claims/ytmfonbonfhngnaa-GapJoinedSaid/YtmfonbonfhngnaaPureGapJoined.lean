/- GapJoined: two rows, one after the other. -/
import Derived.Test.YtmfonbonfhngnaaGjoin1
import Derived.Test.YtmfonbonfhngnaaGF
namespace Go.Proofs.Ytmfonbonfhngnaa.Pure
set_option linter.unusedVariables false
set_option linter.unusedSimpArgs false
open Go.RowKit Go.Proofs.Ytmfonbonfhngnaa.Gjoin Go.Proofs.Ytmfonbonfhngnaa.PrA Go.Proofs.Ytmfonbonfhngnaa.PrR Go.Proofs.Ytmfonbonfhngnaa.PrL Go.Proofs.Ytmfonbonfhngnaa.Hand Go.Proofs.YtmfonbonfhngnaaW.PrintWords Go.Proofs.YtmfonbonfhngnaaW.PrintLast
set_option linter.unusedVariables false
set_option linter.unusedSimpArgs false

theorem joined_in (a b : List Int) (f g h : Int) {i : Nat} (hi : i < a.length) (hb : b.length ≤ 30) (K : Nat) : ∀ (e j : Nat) (fl : Bool), j + e = b.length → (fl = true → ∀ j', j' < j → rd a (i : Nat) ≤ rd b (j' : Nat)) →
    ∃ fl', peaveylaw03_GapJoined.l1 (K + e + 1) a b f g h fl i j = peaveylaw03_GapJoined.l0 K a b f g h fl' (wrap64 ((i : Int) + 1)) ∧ (fl' = true → fl = true ∧ ∀ j', j' < b.length → rd a (i : Nat) ≤ rd b (j' : Nat)) := by
  intro e
  induction e with
  | zero =>
    intro j fl hj hg
    refine ⟨fl, ?_, fun h => ⟨h, fun j' hj' => hg h j' (by omega)⟩⟩
    rw [show K + 0 + 1 = K + 1 from rfl, peaveylaw03_GapJoined.l1, if_neg (by omega)]
  | succ e ih =>
    intro j fl hj hg
    rw [show K + (e + 1) + 1 = (K + e + 1) + 1 by omega, peaveylaw03_GapJoined.l1, if_pos (by omega)]
    by_cases hfl : fl = true
    · rw [if_pos hfl, if_pos (by omega), if_pos (by omega), if_pos (by omega), wrap_succ (i := j) (by omega)]
      obtain ⟨fl', e1, e2⟩ := ih (j + 1) (decide (rd a (i : Nat) ≤ rd b (j : Nat))) (by omega) (fun hd j' hj' => by
        by_cases ej : j' = j
        · subst ej; exact of_decide_eq_true hd
        · exact hg hfl j' (by omega))
      exact ⟨fl', e1, fun h => ⟨hfl, (e2 h).2⟩⟩
    · rw [if_neg hfl, wrap_succ (i := j) (by omega)]
      obtain ⟨fl', e1, e2⟩ := ih (j + 1) false (by omega) (fun hd => absurd hd (by decide))
      exact ⟨fl', e1, fun h => absurd (e2 h).1 (by decide)⟩
theorem joined_go (a b : List Int) (f g h : Int) (ha : a.length ≤ 30) (hb : b.length ≤ 30) (hmax : (∀ i j, i < a.length → j < b.length → rd a (i : Nat) ≤ rd b (j : Nat)) → h = mx f g) (d : Nat) : ∀ (i : Nat) (fl : Bool) (K : Nat), i + d = a.length → d * 40 < K →
    (fl = true → ∀ i' j', i' < i → j' < b.length → rd a (i' : Nat) ≤ rd b (j' : Nat)) → peaveylaw03_GapJoined.l0 K a b f g h fl i = some true := by
  induction d with
  | zero =>
    intro i fl K hi hK hg
    obtain ⟨K, rfl⟩ : ∃ q, K = q + 1 := ⟨K - 1, by omega⟩
    rw [peaveylaw03_GapJoined.l0, if_neg (by omega), works_k]
    by_cases hfl : fl = true
    · rw [if_pos hfl, if_pos (hmax fun i' j' h1 h2 => hg hfl i' j' (by omega) h2)]; rfl
    · rw [if_neg hfl]; rfl
  | succ d ih =>
    intro i fl K hi hK hg
    obtain ⟨K, rfl⟩ : ∃ q, K = q + b.length + 1 + 1 := ⟨K - b.length - 2, by omega⟩
    rw [peaveylaw03_GapJoined.l0, if_pos (by omega)]
    obtain ⟨fl', e1, e2⟩ := joined_in a b f g h (i := i) (by omega) hb K b.length 0 fl (by omega) (fun _ j' hj' => absurd hj' (Nat.not_lt_zero _))
    rw [show ((0 : Int)) = ((0 : Nat) : Int) from rfl, e1, wrap_succ (by omega)]
    refine ih (i + 1) fl' K (by omega) (by omega) fun hf i' j' h1 h2 => ?_
    obtain ⟨g1, g2⟩ := e2 hf
    by_cases ei : i' = i
    · subst ei; exact g2 j' h2
    · exact hg g1 i' j' (by omega) h2
theorem joined_j0 (a b : List Int) (f g h : Int) (ha : a.length ≤ 30) (hb : b.length ≤ 30) (hmax : (∀ i j, i < a.length → j < b.length → rd a (i : Nat) ≤ rd b (j : Nat)) → h = mx f g) (K : Nat) (hK : 2000 < K) : peaveylaw03_GapJoined.j0 K a b f g h false = some true := by
  obtain ⟨K, rfl⟩ : ∃ q, K = q + 1 := ⟨K - 1, by omega⟩
  rw [peaveylaw03_GapJoined.j0, if_neg (by decide)]
  exact joined_go a b f g h ha hb hmax a.length 0 true K (by omega) (by omega) (fun _ i' j' h => absurd h (Nat.not_lt_zero _))
theorem GapJoined : peaveylaw03_GapJoined.Pure := by
  intro l c _ _ _ hc
  have hc' := wf_u8 hc
  refine ⟨5001, ?_⟩
  unfold peaveylaw03_GapJoined.f
  rw [fine_is l 5001 (by omega)]
  by_cases h : rowE l = 0
  · rw [show decide (rowE l = 0) = true from decide_eq_true h, Option.bind_some, if_pos rfl]
    obtain ⟨hl, hp⟩ := row_zero h
    obtain ⟨m, hm, hm2⟩ : ∃ m : Nat, Int.tmod (wrap64 c) (wrap64 ((l.length : Int) + 1)) = (m : Int) ∧ m ≤ l.length := by
      refine ⟨(Int.tmod c ((l.length : Int) + 1)).toNat, ?_, ?_⟩
      · rw [IntWalk.wrap64_in c ⟨by omega, by omega⟩, IntWalk.wrap64_in _ ⟨by omega, by omega⟩, Int.tmod_eq_emod_of_nonneg hc'.1]
        have := Int.emod_nonneg c (show (l.length : Int) + 1 ≠ 0 by omega)
        omega
      · rw [Int.tmod_eq_emod_of_nonneg hc'.1]
        have := Int.emod_lt_of_pos c (show 0 < (l.length : Int) + 1 by omega)
        omega
    have hw : wrap64 ((l.length : Int) + 1) ≠ 0 := by
      rw [IntWalk.wrap64_in _ ⟨by omega, by omega⟩]; omega
    rw [hm, if_neg hw]
    clear hm hw
    rw [if_pos (by omega), if_pos (by omega), Int.toNat_natCast]
    obtain ⟨a, ha⟩ : ∃ a, a = l.take m := ⟨_, rfl⟩
    obtain ⟨b, hb⟩ : ∃ b, b = l.drop m := ⟨_, rfl⟩
    have hab : a ++ b = l := by rw [ha, hb, List.take_append_drop]
    have hla : a.length ≤ 30 := by rw [ha, List.length_take]; omega
    have hlb : b.length ≤ 30 := by rw [hb, List.length_drop]; omega
    have ra : rowE a = 0 := row_of hla fun x hx => hp x (by rw [← hab]; exact List.mem_append_left _ hx)
    have rb : rowE b = 0 := row_of hlb fun x hx => hp x (by rw [← hab]; exact List.mem_append_right _ hx)
    rw [← ha, ← hb]
    clear ha hb
    subst hab
    have h1 := lines_app_ge hl
    have h2 := lines_app_le hl
    have h3 := lines_le_len a
    have h4 := lines_le_len b
    have h5 := lines_le_len (a ++ b)
    have hmx : mx (lines a : Int) (lines b) = max (lines a : Int) (lines b) := by
      unfold mx; split <;> omega
    rw [gap_Fewest.f, gap_Fewest.f, gap_Fewest.f, fewV_is ra hla, fewV_is rb hlb, fewV_is h hl, Option.bind_some, Option.bind_some, Option.bind_some, if_pos rfl, if_pos rfl, if_pos rfl]
    have hw2 : ¬ ((lines (a ++ b) : Nat) : Int) > wrap64 ((lines a : Int) + lines b) := by
      rw [IntWalk.wrap64_in _ ⟨by omega, by omega⟩]; omega
    rw [if_neg hw2]
    clear hw2
    rw [show decide (((lines (a ++ b) : Nat) : Int) < mx (lines a : Int) (lines b)) = false from decide_eq_false (by rw [hmx]; omega)]
    refine joined_j0 a b _ _ _ hla hlb (fun hall => ?_) 5001 (by omega)
    rw [hmx, lines_app_max hl hall]
    omega
  · simp [h, works_k]
end Go.Proofs.Ytmfonbonfhngnaa.Pure
