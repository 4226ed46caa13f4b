/- MarkFree: for any valid office of at most 8 strokes and 11 marks: with a free mark more, marks that were apart still are; with any other mark they are not. -/
import Derived.Test.YtbhcchhhpmlpmaaPfre2
import Derived.Test.YtbhcchhhpmlpmaaHFrees
namespace Go.Proofs.Ytbhcchhhpmlpmaa.Pure
set_option linter.unusedVariables false
set_option linter.unusedSimpArgs false
open Go.RowKit Go.Proofs.Ytbhcchhhpmlpmaa.Pfre Go.Proofs.Ytbhcchhhpmlpmaa.PrR Go.Proofs.Ytbhcchhhpmlpmaa.PrA Go.Proofs.Ytbhcchhhpmlpmaa.PrC Go.Proofs.Ytbhcchhhpmlpmaa.PrE Go.Proofs.Ytbhcchhhpmlpmaa.Hand Go.Proofs.YtbhcchhhpmlpmaaW.PrintWords Go.Proofs.YtbhcchhhpmlpmaaW.PrintLast

theorem rd_get {l : List Int} {i : Nat} (h : i < l.length) : rd l (i : Int) = l[i] := by simp [rd, h]
theorem free_loop {a0 a1 : Int} {l : List Int} (h1 : 1 ≤ a0) (h2 : a0 ≤ 10) (x2 x11 : Int) (m : Int) (F : List Int) (hb : ∀ x ∈ F, 1 ≤ x ∧ x ≤ allN a0) (hs : F.Pairwise (· < ·)) (hn : F.length ≤ 10000) :
    ∀ (d i : Nat), i + d = F.length → ∀ k, peaveylaw01_MarkFree.l0 (d + (k + 1)) x2 F x11 m (decide (m ∈ F.take i)) (i : Int) a0 a1 l = peaveylaw01_MarkFree.l0 (k + 1) x2 F x11 m (decide (m ∈ F)) (F.length : Int) a0 a1 l := by
  intro d
  induction d with
  | zero =>
    intro i hi k
    rw [show i = F.length by omega, List.take_length, Nat.zero_add]
  | succ d ih =>
    intro i hi k
    have hil : i < F.length := by omega
    have hx := hb F[i] (List.getElem_mem hil)
    have hnext := ih (i + 1) (by omega) k
    have hmem : decide (m ∈ F.take (i + 1)) = (decide (m ∈ F.take i) || (F[i] == m)) := by
      rw [Bool.eq_iff_iff, Bool.or_eq_true, decide_eq_true_eq, decide_eq_true_eq, beq_iff_eq, ← List.take_append_getElem hil, List.mem_append, List.mem_singleton]
      constructor
      · rintro (h | h)
        · exact .inl h
        · exact .inr h.symm
      · rintro (h | h)
        · exact .inl h
        · exact .inr h.symm
    have hgo : (if decide (m ∈ F.take i) = true then peaveylaw01_MarkFree.l0 (d + (k + 1)) x2 F x11 m true (wrap64 ((i : Int) + 1)) a0 a1 l else peaveylaw01_MarkFree.l0 (d + (k + 1)) x2 F x11 m (F[i] == m) (wrap64 ((i : Int) + 1)) a0 a1 l) = peaveylaw01_MarkFree.l0 (k + 1) x2 F x11 m (decide (m ∈ F)) (F.length : Int) a0 a1 l := by
      rw [wsucc i (by omega), ← hnext, hmem]
      cases decide (m ∈ F.take i)
      · rw [if_neg (by simp), Bool.false_or]
      · rw [if_pos rfl, Bool.true_or]
    rw [show d + 1 + (k + 1) = (d + (k + 1)) + 1 by omega, peaveylaw01_MarkFree.l0, if_pos (by omega), if_pos (by omega), rd_get hil, if_neg (by omega), refAll_is a1 l h1 h2, Option.bind_some, if_neg (by omega)]
    by_cases hi0 : (i : Int) > 0
    · have hp : i - 1 < F.length := by omega
      have hlt := List.pairwise_iff_getElem.1 hs (i - 1) i hp hil (by omega)
      rw [if_pos hi0, w64 (by omega), show ((i : Int) - 1) = ((i - 1 : Nat) : Int) by omega, if_pos (by omega), if_pos (by omega), rd_get hp, if_neg (by omega)]
      exact hgo
    · rw [if_neg hi0]
      exact hgo
theorem free_last {a0 a1 : Int} {l : List Int} (ho : officeN a0 a1 l = 0) (hl : l.length < 12) (a3 : Int) (h3 : 0 ≤ a3 ∧ a3 ≤ 65535) {F : List Int} (hF : F = freeTo a1 l (allN a0).toNat) (hlen : F.length ≤ 10000) (x11 : Int) (hx : x11 = if pairN l a1 = none then 0 else 17) {k : Nat} (hk : 40 ≤ k) :
    peaveylaw01_MarkFree.j2 (k + 1) a3 F x11 false a0 a1 l = some true := by
  rw [peaveylaw01_MarkFree.j2, if_neg (by simp), works_k k (by omega)]
  by_cases h0 : F.length = 0
  · rw [if_pos (by omega)]; rfl
  · obtain ⟨i, hi, hil⟩ := tmod_nat (a := a3) (n := (F.length : Int)) h3.1 h3.2 (by omega)
    have hil' : i < F.length := by omega
    rw [if_neg (by omega), hi, if_pos (by omega), if_pos (by omega), rd_get hil', with_is a0 a1 l _ (by omega), Option.bind_some]
    have hm : F[i] ∈ F := List.getElem_mem hil'
    obtain ⟨y, hy⟩ : ∃ y, y = F[i] := ⟨_, rfl⟩
    rw [← hy] at hm ⊢
    rw [hF] at hm
    obtain ⟨m, m1, m2, m3, m4⟩ := free_mem.1 hm
    rw [m3]
    obtain ⟨p, q, hap⟩ := apart_snoc ho hl (m := m) m1 (by omega)
    show ((mark_Apart.f a0 a1 (l ++ [(m : Int)])).bind fun bt134 => _) = _
    rw [hap, Option.bind_some]
    have : (if pairN l a1 = none ∧ freeP l a1 m = true then (0 : Int) else 17) = x11 := by
      rw [hx]
      by_cases h : pairN l a1 = none
      · rw [if_pos ⟨h, m4⟩, if_pos h]
      · rw [if_neg (fun g => h g.1), if_neg h]
    show (if (if pairN l a1 = none ∧ freeP l a1 m = true then (0 : Int) else 17) = x11 then _ else _) = _
    rw [if_pos this]; rfl
theorem MarkFree (a0 a1 : Int) (l : List Int) (a2 a3 : Int) (_ : (Lit.int .i64 a0).wf = true) (_ : (Lit.int .i64 a1).wf = true) (_ : l.length ≤ maxLen) (_ : ∀ x ∈ l, (Lit.int .i64 x).wf = true) (h2 : (Lit.int .u16 a2).wf = true) (h3 : (Lit.int .u16 a3).wf = true) :
    ∃ k, peaveylaw01_MarkFree.f k a0 a1 l a2 a3 = some true := by
  have g2 := wf_u16 h2
  have g3 := wf_u16 h3
  have hj : ∀ k, 30 ≤ k → peaveylaw01_MarkFree.j0 k a2 a3 true a0 a1 l = some true := by
    intro k hk
    obtain ⟨k, rfl⟩ : ∃ j, k = j + 1 := ⟨k - 1, by omega⟩
    rw [peaveylaw01_MarkFree.j0, if_pos rfl, works_k k (by omega)]; rfl
  by_cases ho : officeN a0 a1 l = 0
  · have hz := office_zero ho
    have hp := allN_pos hz.1
    have ha := allN_lt hz.2.1
    obtain ⟨F, hF⟩ : ∃ F, F = freeTo a1 l (allN a0).toNat := ⟨_, rfl⟩
    have hlen := free_length a1 l (allN a0).toNat
    rw [← hF] at hlen
    refine ⟨F.length + 62, ?_⟩
    unfold peaveylaw01_MarkFree.f
    rw [fine_is a0 a1 l (by omega), Option.bind_some, if_pos (decide_eq_true ho)]
    by_cases h8 : a0 > 8
    · rw [if_pos h8]; exact hj _ (by omega)
    · rw [if_neg h8]
      by_cases h12 : (l.length : Int) ≥ 12
      · rw [decide_eq_true h12]; exact hj _ (by omega)
      · have hl12 : l.length < 12 := by omega
        rw [decide_eq_false h12, show F.length + 62 = (F.length + 61) + 1 by omega, peaveylaw01_MarkFree.j0, if_neg (by simp)]
        have hFr : mark_Free.f a0 a1 l = some (F, 0) := by
          unfold mark_Free.f
          rw [if_neg (fun h => h ho), hF]
        obtain ⟨w, hw, hwl⟩ := tmod_nat (a := a2) (n := allN a0) g2.1 g2.2 (by omega)
        rw [hFr, apart_val ho, Option.bind_some, Option.bind_some, if_pos rfl, refAll_is a1 l hz.1 hz.2.1, Option.bind_some, if_neg (by omega), hw, w64 (by omega), show (1 + (w : Int)) = ((w + 1 : Nat) : Int) by omega]
        have hb : ∀ x ∈ F, 1 ≤ x ∧ x ≤ allN a0 := by
          intro x hx
          rw [hF] at hx
          obtain ⟨m, m1, m2, rfl, _⟩ := free_mem.1 hx
          omega
        have hs : F.Pairwise (· < ·) := by rw [hF]; exact free_sorted _ _ _
        have hloop := free_loop (a1 := a1) (l := l) hz.1 hz.2.1 a3 (apartN (pairN l a1)).2.2 ((w + 1 : Nat) : Int) F hb hs (by omega) F.length 0 (by omega) 60
        have e0 : decide (((w + 1 : Nat) : Int) ∈ F.take 0) = false := decide_eq_false (by simp)
        rw [e0] at hloop
        show peaveylaw01_MarkFree.l0 (F.length + (60 + 1)) a3 F (apartN (pairN l a1)).2.2 ((w + 1 : Nat) : Int) false 0 a0 a1 l = some true
        refine hloop.trans ?_
        rw [peaveylaw01_MarkFree.l0, if_neg (by omega), with_is a0 a1 l _ (by omega), Option.bind_some]
        obtain ⟨p, q, hap⟩ := apart_snoc ho hl12 (m := w + 1) (by omega) (by omega)
        show ((mark_Apart.f a0 a1 (l ++ [((w + 1 : Nat) : Int)])).bind fun bt124 => _) = _
        rw [hap, Option.bind_some]
        have hmem : decide (((w + 1 : Nat) : Int) ∈ F) = freeP l a1 (w + 1) := by
          rw [Bool.eq_iff_iff, decide_eq_true_eq, hF, free_mem]
          constructor
          · rintro ⟨m, _, _, m3, m4⟩
            rw [show w + 1 = m by omega]; exact m4
          · intro h
            exact ⟨w + 1, by omega, by omega, rfl, h⟩
        rw [hmem, apart_zero]
        have hlast := free_last ho hl12 a3 g3 hF (by omega) _ rfl (k := 59) (by omega)
        by_cases hn : pairN l a1 = none
        · rw [if_pos hn] at hlast ⊢
          rw [if_pos rfl]
          have e : ((if pairN l a1 = none ∧ freeP l a1 (w + 1) = true then (0 : Int) else 17) == 0) = freeP l a1 (w + 1) := by
            cases hf : freeP l a1 (w + 1)
            · rw [if_neg (fun h => by cases h.2)]; rfl
            · rw [if_pos ⟨hn, rfl⟩]; rfl
          show peaveylaw01_MarkFree.j2 60 a3 F 0 (((if pairN l a1 = none ∧ freeP l a1 (w + 1) = true then (0 : Int) else 17) == 0) != freeP l a1 (w + 1)) a0 a1 l = some true
          rw [e, show (freeP l a1 (w + 1) != freeP l a1 (w + 1)) = false by simp]
          exact hlast
        · rw [if_neg hn] at hlast ⊢
          rw [if_neg (by omega), if_neg (fun h => hn h.1)]
          exact hlast
  · refine ⟨40, ?_⟩
    unfold peaveylaw01_MarkFree.f
    rw [fine_is a0 a1 l (by omega), Option.bind_some, if_neg (by simpa using ho)]
    exact hj _ (by omega)
end Go.Proofs.Ytbhcchhhpmlpmaa.Pure
