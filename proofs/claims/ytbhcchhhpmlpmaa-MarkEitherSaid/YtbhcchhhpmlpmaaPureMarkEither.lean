/- MarkEither: for any valid office, worn mark and owner: marks are either apart, and then a worn mark can be that of one owner at most, or two of them clash, and then the worn mark that is returned can be that of both. -/
import Derived.Test.YtbhcchhhpmlpmaaPeit2
import Derived.Test.YtbhcchhhpmlpmaaHLaws
namespace Go.Proofs.Ytbhcchhhpmlpmaa.Pure
set_option linter.unusedVariables false
set_option linter.unusedSimpArgs false
open Go.RowKit Go.Proofs.Ytbhcchhhpmlpmaa.Peit Go.Proofs.Ytbhcchhhpmlpmaa.PrR Go.Proofs.Ytbhcchhhpmlpmaa.PrT Go.Proofs.Ytbhcchhhpmlpmaa.PrA Go.Proofs.Ytbhcchhhpmlpmaa.PrC Go.Proofs.Ytbhcchhhpmlpmaa.Hand Go.Proofs.YtbhcchhhpmlpmaaW.PrintWords Go.Proofs.YtbhcchhhpmlpmaaW.PrintLast

/-- whose a worn mark can be: one owner's at most, where all marks are apart -/
theorem owners_same {a0 a1 : Int} {l : List Int} (ho : officeN a0 a1 l = 0) (hn : pairN l a1 = none) {w n : Nat} (hnl : n ≤ l.length) {x y : Int} (hx : x ∈ ownN a1 l w n) (hy : y ∈ ownN a1 l w n) : x = y := by
  obtain ⟨i, hi, rfl, h1⟩ := ownN_mem.1 hx
  obtain ⟨k, hk, rfl, h2⟩ := ownN_mem.1 hy
  have hp := pairN_none.1 hn
  have hf := both_far (mk_lt ho (show i < l.length by omega)) (mk_lt ho (show k < l.length by omega)) h1 h2
  rcases Nat.lt_trichotomy i k with c | c | c
  · have := hp i k c (by omega); rw [clN, decide_eq_true hf] at this; cases this
  · rw [c]
  · have := hp k i c (by omega); rw [clN_comm, clN, decide_eq_true hf] at this; cases this
theorem either_apart {a0 a1 : Int} {l : List Int} (ho : officeN a0 a1 l = 0) (hn : pairN l a1 = none) (a2 : Int) (w : Nat) (h2 : 0 ≤ a2 ∧ a2 ≤ 255) (hw : (w : Int) ≤ allN a0) : peaveylaw01_MarkEither.j0 90 a2 (w : Int) false a0 a1 l = some true := by
  have hz := office_zero ho
  have ha := allN_lt hz.2.1
  rw [peaveylaw01_MarkEither.j0, if_neg (by simp), works_k 89 (by omega)]
  by_cases hl : l.length = 0
  · rw [if_pos (by omega)]; rfl
  · obtain ⟨i, hi, hil⟩ := tmod_nat (a := a2) (n := (l.length : Int)) h2.1 (by omega) (by omega)
    have hil' : i < l.length := by omega
    have hm := mk_lt ho hil'
    have hma := mk_all ho hil'
    have hle := @Nat.and_le_left (mk l i) w
    rw [if_neg (by omega), hi, if_pos (by omega), if_pos (by omega), mk_rd ho hil', show Go.bits .and .i64 (mk l i : Int) (w : Int) = ((mk l i &&& w : Nat) : Int) from i64_and_nat _ _ hm (by omega)]
    rw [owners_val ho _ (by omega), Option.bind_some, if_pos rfl, refCanBe_is _ _ a1 (by omega) hm (by omega), Option.bind_some]
    have hend : peaveylaw01_MarkEither.j1 89 (w : Int) (i : Int) false a0 a1 l = some true := by
      have hp := pairN_none.1 hn
      have hk : w % l.length < l.length := Nat.mod_lt _ (by omega)
      have hcl := clash_val ho hil' hk
      rw [peaveylaw01_MarkEither.j1, if_neg (by simp), if_neg (by omega), tmod_nat' (by omega), works_k 88 (by omega)]
      by_cases e : i = w % l.length
      · rw [if_pos e] at hcl
        rw [hcl, Option.bind_some, if_pos (show (i : Int) = ((w % l.length : Nat) : Int) by omega), if_pos rfl]; rfl
      · have hc : clN l a1 i (w % l.length) = false := by
          rcases Nat.lt_or_ge i (w % l.length) with c | c
          · exact hp i _ c hk
          · rw [clN_comm]; exact hp _ i (by omega) hil'
        rw [if_neg e, hc] at hcl
        rw [hcl, Option.bind_some, if_neg (show ¬ (i : Int) = ((w % l.length : Nat) : Int) by omega)]
        show (if (5 : Int) = 5 then _ else _) = _
        rw [if_pos rfl]; rfl
    cases hc : canBe (mk l i &&& w) (mk l i) a1
    · rw [if_neg (by simp)]; exact hend
    · have hj : ownN a1 l (mk l i &&& w) l.length = [(i : Int)] := just_of (ownN_nodup _ _ _ _) (ownN_mem.2 ⟨i, hil', rfl, hc⟩) fun y hy => owners_same ho hn (Nat.le_refl _) hy (ownN_mem.2 ⟨i, hil', rfl, hc⟩)
      rw [if_pos rfl, hj, ints_is _ _ (by simp) (by simp), Option.bind_some, decide_eq_true rfl]
      exact hend
theorem either_clash {a0 a1 : Int} {l : List Int} (ho : officeN a0 a1 l = 0) {i k : Nat} (hik : i < k) (hk : k < l.length) (hc : clN l a1 i k = true) : peaveylaw01_MarkEither.j2 90 (i : Int) (k : Int) false a0 a1 l = some true := by
  have hi : i < l.length := by omega
  have hm1 := mk_lt ho hi
  have hm2 := mk_lt ho hk
  have hle := @Nat.and_le_left (mk l i) (mk l k)
  have hma := mk_all ho hi
  obtain ⟨c1, c2⟩ := far_both hm1 hm2 (of_decide_eq_true hc)
  rw [peaveylaw01_MarkEither.j2, if_neg (by simp), clash_val ho hi hk, if_neg (by omega), hc, if_pos rfl, Option.bind_some, if_pos rfl, if_neg (by omega), if_pos (by omega), if_pos (by omega)]
  rw [mk_rd ho hi, refCanBe_is _ _ a1 (by omega) hm1 (by omega), c1, Option.bind_some, if_pos rfl, if_pos (by omega), if_pos (by omega), mk_rd ho hk, refCanBe_is _ _ a1 (by omega) hm2 (by omega), c2, Option.bind_some]
  have h2 := two_of (ownN_mem.2 ⟨i, hi, rfl, c1⟩) (ownN_mem.2 ⟨k, hk, rfl, c2⟩) (show (i : Int) ≠ (k : Int) by omega)
  show peaveylaw01_MarkEither.j3 (88 + 1) _ false a0 a1 l = some true
  rw [peaveylaw01_MarkEither.j3, if_neg (by simp), owners_val ho _ (by omega), Option.bind_some, if_pos rfl, if_pos (by show ((ownN a1 l (mk l i &&& mk l k) l.length).length : Int) ≥ 2; omega), works_k 88 (by omega)]; rfl
theorem MarkEither (a0 a1 : Int) (l : List Int) (a2 a3 : Int) (_ : (Lit.int .i64 a0).wf = true) (_ : (Lit.int .i64 a1).wf = true) (_ : l.length ≤ maxLen) (_ : ∀ x ∈ l, (Lit.int .i64 x).wf = true) (h2 : (Lit.int .u16 a2).wf = true) (h3 : (Lit.int .u8 a3).wf = true) :
    ∃ k, peaveylaw01_MarkEither.f k a0 a1 l a2 a3 = some true := by
  refine ⟨90, ?_⟩
  unfold peaveylaw01_MarkEither.f
  rw [fine_is a0 a1 l (by omega), works_k 90 (by omega), Option.bind_some]
  by_cases ho : officeN a0 a1 l = 0
  · have hz := office_zero ho
    have hp := allN_pos hz.1
    have g2 := wf_u16 h2
    have g3 := wf_u8 h3
    obtain ⟨w, hw, hwl⟩ := tmod_nat (a := a2) (n := shl .i64 1 a0) g2.1 g2.2 (by rw [shl_one hz.1 hz.2.1]; omega)
    rw [if_pos (decide_eq_true ho), if_pos (by omega), hw]
    rw [shl_one hz.1 hz.2.1] at hwl ⊢
    rw [if_neg (by omega), apart_val ho, Option.bind_some, owners_val ho w (by omega), Option.bind_some, if_pos rfl]
    cases hn : pairN l a1 with
    | none =>
      have h1 := one_of (ownN_nodup a1 l w l.length) fun x hx y hy => owners_same ho hn (Nat.le_refl _) hx hy
      show (if (0 : Int) = 0 then _ else _) = _
      rw [if_pos rfl]
      show (if (0 : Int) = 0 then _ else _) = _
      rw [if_pos rfl]
      show (if (0 : Int) = 0 then _ else _) = _
      rw [if_pos rfl]
      rw [decide_eq_false (by show ¬ ((ownN a1 l w l.length).length : Int) > 1; omega)]
      exact either_apart ho hn a3 w g3 (by omega)
    | some p =>
      obtain ⟨i, k⟩ := p
      obtain ⟨h1, h2, h3⟩ := pairN_some hn
      show (if (17 : Int) = 0 then _ else _) = _
      rw [if_neg (by omega)]
      show (if (17 : Int) = 17 then _ else _) = _
      rw [if_pos rfl]
      show (if (i : Int) < 0 then _ else (if (i : Int) ≥ (k : Int) then _ else _)) = _
      rw [if_neg (by omega), if_neg (by omega)]
      show peaveylaw01_MarkEither.j2 90 (i : Int) (k : Int) (decide ((k : Int) ≥ (l.length : Int))) a0 a1 l = some true
      rw [decide_eq_false (by omega)]
      exact either_clash ho h1 h2 h3
  · rw [if_neg (by simpa using ho)]; rfl
end Go.Proofs.Ytbhcchhhpmlpmaa.Pure
