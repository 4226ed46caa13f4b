/- MarkKept: for any valid office with marks: a worn mark that has all strokes of Keep is contained in no other owner's mark; no given strokes that are fewer, or as many and before them, tell the owner; without strokes that tell, the owner's mark is contained in another one. -/
import Derived.Test.YtbhcchhhpmlpmaaPkpt2
import Derived.Test.YtbhcchhhpmlpmaaHLaw0
import Derived.Test.YtbhcchhhpmlpmaaHRefK
namespace Go.Proofs.Ytbhcchhhpmlpmaa.Pure
set_option linter.unusedVariables false
set_option linter.unusedSimpArgs false
open Go.RowKit Go.Proofs.Ytbhcchhhpmlpmaa.Pkpt Go.Proofs.Ytbhcchhhpmlpmaa.PrR Go.Proofs.Ytbhcchhhpmlpmaa.PrU Go.Proofs.Ytbhcchhhpmlpmaa.PrA Go.Proofs.Ytbhcchhhpmlpmaa.PrC Go.Proofs.Ytbhcchhhpmlpmaa.Hand Go.Proofs.YtbhcchhhpmlpmaaW.PrintWords Go.Proofs.YtbhcchhhpmlpmaaW.PrintLast

theorem tellN_or {l : List Int} {ow s u : Nat} (h : tellN l ow s = true) (hu : u &&& mk l ow = u) : tellN l ow (s ||| u) = true := by
  unfold tellN at h ⊢
  rw [Bool.and_eq_true] at h ⊢
  obtain ⟨h1, h2⟩ := h
  have h1 := of_decide_eq_true h1
  refine ⟨decide_eq_true ?_, ?_⟩
  · rw [Nat.and_or_distrib_right, h1, hu]
  · rw [allFrom_iff] at h2 ⊢
    intro j hj1 hj2
    have := h2 j hj1 hj2
    by_cases e : j = ow
    · simp [e]
    · rw [decide_eq_false e, Bool.false_or, Bool.not_eq_true'] at this ⊢
      refine decide_eq_false fun hx => of_decide_eq_false this (sub_of_bits fun i hi => ?_)
      exact sub_bit hx (by rw [Nat.testBit_or, hi]; rfl)
theorem kept_end {a0 a1 : Int} {l : List Int} (ho : officeN a0 a1 l = 0) {ow s u : Nat} (how : ow < l.length) (hk : keepN l ow = some s) (hu : u &&& mk l ow = u) :
    peaveylaw01_MarkKept.j1 90 (ow : Int) (s : Int) (u : Int) false a0 a1 l = some true := by
  have hm := mk_lt ho how
  obtain ⟨h1, h2, h3⟩ := keepN_some ho how hk
  have hul : u ≤ mk l ow := by rw [← hu]; exact Nat.and_le_right
  have hno : ∀ b : Bool, (b = true → tellN l ow u = false) → peaveylaw01_MarkKept.j2 89 (ow : Int) (u : Int) b a0 a1 l = some true := by
    intro b hb
    rw [peaveylaw01_MarkKept.j2, works_k 88 (by omega)]
    cases b
    · rw [if_neg (by simp)]; rfl
    · rw [if_pos rfl, refTells_is ho ow u how (by omega) (by omega), hb rfl, Option.bind_some, if_neg (by simp)]; rfl
  rw [peaveylaw01_MarkKept.j1, if_neg (by simp), refSize_is u (by omega) (by omega), Option.bind_some, refSize_is s (by omega) (by omega), Option.bind_some, Option.bind_some, Option.bind_some]
  by_cases g1 : (pc u : Int) < (pc s : Int)
  · rw [if_pos g1]
    refine hno true fun _ => ?_
    cases ht : tellN l ow u
    · rfl
    · rcases h3 u ht with e | e
      · rw [e] at g1; omega
      · rcases e with e | e <;> omega
  · rw [if_neg g1]
    by_cases g2 : (pc u : Int) = (pc s : Int)
    · rw [if_pos g2, refFirst_is (by omega) (by omega) (by omega), Option.bind_some]
      refine hno _ fun hf => ?_
      have hf := first_iff.1 hf
      cases ht : tellN l ow u
      · rfl
      · rcases h3 u ht with e | e
        · rw [e] at hf; exact absurd hf (fst_asymm hf)
        · rcases e with e | e
          · omega
          · exact absurd hf (fst_asymm e.2)
    · rw [if_neg g2]
      exact hno false fun h => by cases h
theorem MarkKept (a0 a1 : Int) (l : List Int) (a2 a3 : Int) (_ : (Lit.int .i64 a0).wf = true) (_ : (Lit.int .i64 a1).wf = true) (_ : l.length ≤ maxLen) (_ : ∀ x ∈ l, (Lit.int .i64 x).wf = true) (h2 : (Lit.int .u8 a2).wf = true) (h3 : (Lit.int .u16 a3).wf = true) :
    ∃ k, peaveylaw01_MarkKept.f k a0 a1 l a2 a3 = some true := by
  refine ⟨91, ?_⟩
  have g2 := wf_u8 h2
  have g3 := wf_u16 h3
  unfold peaveylaw01_MarkKept.f
  rw [fine_is a0 a1 l (by omega), Option.bind_some]
  by_cases ho : officeN a0 a1 l = 0
  · have hz := office_zero ho
    have hp := allN_pos hz.1
    have ha := allN_lt hz.2.1
    rw [if_pos (decide_eq_true ho), peaveylaw01_MarkKept.j0]
    by_cases hl : l.length = 0
    · rw [if_pos (beq_iff_eq.2 (by omega)), works_k 90 (by omega)]; rfl
    · obtain ⟨i, hi, hil⟩ := tmod_nat (a := a2) (n := (l.length : Int)) g2.1 (by omega) (by omega)
      obtain ⟨w, hw, hwl⟩ := tmod_nat (a := a3) (n := shl .i64 1 a0) g3.1 g3.2 (by rw [shl_one hz.1 hz.2.1]; omega)
      have hil' : i < l.length := by omega
      have hm := mk_lt ho hil'
      have hma := mk_all ho hil'
      have hK : mark_Keep.f a0 a1 l (i : Int) = some (keepV l (i : Int)) := by
        unfold mark_Keep.f
        rw [if_neg (fun h => h ho), show outB 0 ((l.length : Int) - 1) (i : Int) = false by simp [outB]; omega]; rfl
      rw [if_neg (by rw [beq_iff_eq]; omega), if_neg (by omega), hi, hK, Option.bind_some, if_pos (by omega), hw]
      rw [shl_one hz.1 hz.2.1] at hwl ⊢
      rw [if_neg (by omega), if_pos (by omega), if_pos (by omega), mk_rd ho hil', keepV_is ho i hil']
      rw [show Go.bits .and .i64 (w : Int) (mk l i : Int) = ((w &&& mk l i : Nat) : Int) from i64_and_nat _ _ (by omega) hm]
      cases hk : keepN l i with
      | none =>
        show (if (17 : Int) = 0 then _ else _) = _
        rw [if_neg (by omega)]
        show (if (17 : Int) = 17 then (if (0 : Int) = 0 then _ else _) else _) = _
        rw [if_pos rfl, if_pos rfl, refTells_is ho i _ hil' hm (by omega), keepN_none ho hil' hk, Option.bind_some, if_neg (by simp), works_k 90 (by omega)]; rfl
      | some s =>
        obtain ⟨h1, h2, h3⟩ := keepN_some ho hil' hk
        have hsub := and_sub_right w (mk l i)
        have hle : w &&& mk l i ≤ mk l i := Nat.and_le_right
        show (if (0 : Int) = 0 then (if (s : Int) < 0 then _ else _) else _) = _
        rw [if_pos rfl, if_neg (by omega), refAll_is a1 l hz.1 hz.2.1, Option.bind_some, if_neg (by show ¬ (s : Int) > allN a0; omega)]
        show ((peaveyref01_Tells.f 90 a0 a1 l (i : Int) (s : Int)).bind fun t111 => _) = _
        rw [refTells_is ho i s hil' (by omega) (by omega), h1, Option.bind_some, if_pos rfl]
        rw [show Go.bits .or .i64 (s : Int) ((w &&& mk l i : Nat) : Int) = ((s ||| (w &&& mk l i) : Nat) : Int) from i64_or_nat _ _ (by omega) (by omega)]
        rw [refTells_is ho i _ hil' (Nat.or_lt_two_pow (n := 10) (by omega) (by omega)) (by omega), tellN_or h1 hsub, Option.bind_some]
        exact kept_end ho hil' hk hsub
  · rw [if_neg (by simpa using ho), peaveylaw01_MarkKept.j0, if_pos rfl, works_k 90 (by omega)]; rfl
end Go.Proofs.Ytbhcchhhpmlpmaa.Pure
