/- MarkTold: for any valid office with marks: an owner is told after as many losses as Told says; after one more, the rest can be that of another owner, for some strokes that are lost. -/
import Derived.Test.YtbhcchhhpmlpmaaPtld2
import Derived.Test.YtbhcchhhpmlpmaaHLaws
import Derived.Test.YtbhcchhhpmlpmaaHRefT
import Derived.Test.YtbhcchhhpmlpmaaHRefS
namespace Go.Proofs.Ytbhcchhhpmlpmaa.Pure
set_option linter.unusedVariables false
set_option linter.unusedSimpArgs false
open Go.RowKit Go.Proofs.Ytbhcchhhpmlpmaa.Ptld Go.Proofs.Ytbhcchhhpmlpmaa.PrR Go.Proofs.Ytbhcchhhpmlpmaa.PrS Go.Proofs.Ytbhcchhhpmlpmaa.PrA Go.Proofs.Ytbhcchhhpmlpmaa.PrC Go.Proofs.Ytbhcchhhpmlpmaa.Hand Go.Proofs.YtbhcchhhpmlpmaaW.PrintWords Go.Proofs.YtbhcchhhpmlpmaaW.PrintLast

theorem andNot_sub (a b : Nat) (ha : a < 1024) (hb : b ≤ 65535) : ∃ v : Nat, Go.bits .andNot .i64 (a : Int) (b : Int) = (v : Int) ∧ v &&& a = v ∧ v ≤ a := by
  refine ⟨a &&& (2 ^ 64 - 1 - b), ?_, ?_, Nat.and_le_left⟩
  · show IntKind.i64.wrap ((BitVec.ofInt 64 (a : Int) &&& ~~~BitVec.ofInt 64 (b : Int)).toNat : Int) = _
    have e1 : (BitVec.ofInt 64 (a : Int)).toNat = a := by rw [BitVec.toNat_ofInt]; omega
    have e2 : (BitVec.ofInt 64 (b : Int)).toNat = b := by rw [BitVec.toNat_ofInt]; omega
    rw [BitVec.toNat_and, BitVec.toNat_not, e1, e2]
    have : a &&& (2 ^ 64 - 1 - b) ≤ a := Nat.and_le_left
    exact IntWalk.i64_in _ (by omega)
  · rw [Nat.and_comm, ← Nat.and_assoc, Nat.and_self]
theorem canBe_mono {w m : Nat} {a b : Int} (h : canBe w m a = true) (hab : a ≤ b) : canBe w m b = true := by
  rw [canBe_iff] at h ⊢
  exact ⟨h.1, by omega⟩
theorem told_find {a0 a1 : Int} {l : List Int} (ho : officeN a0 a1 l = 0) {i j : Nat} (hi : i < l.length) (hj : j < l.length) (hne : j ≠ i) {t : Int} (ht0 : -1 ≤ t) (ht : t < a1)
    (h1 : (pc (dif (mk l i) (mk l j)) : Int) ≤ t + 1) (h2 : (pc (dif (mk l j) (mk l i)) : Int) ≤ a1) :
    ∀ (m w : Nat), w + m = mk l i &&& mk l j → ∀ k, 2 * m + 60 ≤ k → peaveylaw01_MarkTold.l0 k (i : Int) t (w : Int) a0 a1 l = some true := by
  have hz := office_zero ho
  have hmi := mk_lt ho hi
  have hmj := mk_lt ho hj
  have hle := @Nat.and_le_left (mk l i) (mk l j)
  have hall := mk_all ho hi
  intro m
  induction m with
  | zero =>
    intro w hw k hk
    obtain ⟨k, rfl⟩ : ∃ j, k = j + 2 := ⟨k - 2, by omega⟩
    have hw' : w = mk l i &&& mk l j := by omega
    obtain ⟨c1, c2⟩ := canBe_and hmi hmj h1 h2
    rw [← hw'] at c1 c2
    have h3 := two_of (ownN_mem.2 ⟨i, hi, rfl, canBe_mono c1 (by omega)⟩) (ownN_mem.2 ⟨j, hj, rfl, c2⟩) (show (i : Int) ≠ (j : Int) by omega)
    rw [peaveylaw01_MarkTold.l0, if_pos (by omega), if_pos (by omega), mk_rd ho hi, if_pos (by omega), w64 (by omega), refCanBe_is w _ _ (by omega) hmi (by omega), c1, Option.bind_some, if_pos rfl]
    rw [refOwnersOf_is ho w (by omega) (by omega), Option.bind_some, decide_eq_true (by omega), peaveylaw01_MarkTold.j4, if_pos rfl, owners_val ho w (by omega), Option.bind_some, if_pos rfl, if_pos (by show ((ownN a1 l w l.length).length : Int) > 1; omega), works_k k (by omega)]; rfl
  | succ m ih =>
    intro w hw k hk
    obtain ⟨k, rfl⟩ : ∃ j, k = j + 2 := ⟨k - 2, by omega⟩
    have hn := ih (w + 1) (by omega) k (by omega)
    rw [peaveylaw01_MarkTold.l0, if_pos (by omega), if_pos (by omega), mk_rd ho hi, if_pos (by omega), w64 (by omega), refCanBe_is w _ _ (by omega) hmi (by omega), Option.bind_some]
    have hno : peaveylaw01_MarkTold.j4 (k + 1) (i : Int) t (w : Int) false a0 a1 l = some true := by
      rw [peaveylaw01_MarkTold.j4, if_neg (by simp), wsucc w (by omega)]; exact hn
    cases hc : canBe w (mk l i) (t + 1)
    · rw [if_neg (by simp)]; exact hno
    · rw [if_pos rfl, refOwnersOf_is ho w (by omega) (by omega), Option.bind_some]
      by_cases h3 : ((ownN a1 l w l.length).length : Int) > 1
      · rw [decide_eq_true h3, peaveylaw01_MarkTold.j4, if_pos rfl, owners_val ho w (by omega), Option.bind_some, if_pos rfl, if_pos h3, works_k k (by omega)]; rfl
      · rw [decide_eq_false h3]; exact hno
theorem told_rest {a0 a1 : Int} {l : List Int} (ho : officeN a0 a1 l = 0) {i : Nat} (hi : i < l.length) : peaveylaw01_MarkTold.j2 2300 (i : Int) (toldTo a1 l (i : Int) l.length) false a0 a1 l = some true := by
  rw [peaveylaw01_MarkTold.j2, if_neg (by simp)]
  by_cases ht : toldTo a1 l (i : Int) l.length = a1
  · rw [if_pos ht, works_k 2299 (by omega)]; rfl
  · have h1 := toldTo_le ho hi
    have h0 := toldTo_ge ho hi
    rw [if_neg ht]
    have hn : ¬ toldP l a1 i (toldTo a1 l (i : Int) l.length + 1) := fun h => by have := (told_le ho hi (by omega)).1 h; omega
    unfold toldP at hn
    obtain ⟨j, hj, hji, h2, h3⟩ : ∃ j, j < l.length ∧ j ≠ i ∧ (pc (dif (mk l j) (mk l i)) : Int) ≤ a1 ∧ (pc (dif (mk l i) (mk l j)) : Int) ≤ toldTo a1 l (i : Int) l.length + 1 := by
      apply Classical.byContradiction
      intro hx
      refine hn fun j hj hji h2 => ?_
      rcases Int.lt_or_le (toldTo a1 l (i : Int) l.length + 1) (pc (dif (mk l i) (mk l j)) : Int) with g | g
      · exact g
      · exact absurd ⟨j, hj, hji, h2, g⟩ hx
    have hmi := mk_lt ho hi
    have hle := @Nat.and_le_left (mk l i) (mk l j)
    exact told_find ho hi hj hji h0 (by omega) h3 h2 (mk l i &&& mk l j) 0 (by omega) 2299 (by omega)
theorem MarkTold (a0 a1 : Int) (l : List Int) (a2 a3 : Int) (_ : (Lit.int .i64 a0).wf = true) (_ : (Lit.int .i64 a1).wf = true) (_ : l.length ≤ maxLen) (_ : ∀ x ∈ l, (Lit.int .i64 x).wf = true) (h2 : (Lit.int .u8 a2).wf = true) (h3 : (Lit.int .u16 a3).wf = true) :
    ∃ k, peaveylaw01_MarkTold.f k a0 a1 l a2 a3 = some true := by
  refine ⟨2302, ?_⟩
  have g2 := wf_u8 h2
  have g3 := wf_u16 h3
  unfold peaveylaw01_MarkTold.f
  rw [fine_is a0 a1 l (by omega), Option.bind_some]
  by_cases ho : officeN a0 a1 l = 0
  · have hz := office_zero ho
    rw [if_pos (decide_eq_true ho), peaveylaw01_MarkTold.j0]
    by_cases hl : l.length = 0
    · rw [if_pos (beq_iff_eq.2 (by omega)), works_k 2301 (by omega)]; rfl
    · obtain ⟨i, hi, hil⟩ := tmod_nat (a := a2) (n := (l.length : Int)) g2.1 (by omega) (by omega)
      have hil' : i < l.length := by omega
      have ht1 := toldTo_le ho hil'
      have ht0 := toldTo_ge ho hil'
      have hT : mark_Told.f a0 a1 l (i : Int) = some (toldTo a1 l (i : Int) l.length, 0) := by
        unfold mark_Told.f
        rw [if_neg (fun h => h ho), show outB 0 ((l.length : Int) - 1) (i : Int) = false by simp [outB]; omega]; rfl
      have hm := mk_lt ho hil'
      have hma := mk_all ho hil'
      obtain ⟨b, rfl⟩ := Int.eq_ofNat_of_zero_le g3.1
      obtain ⟨v, hv, hvm, hvle⟩ := andNot_sub (mk l i) b hm (by omega)
      rw [if_neg (by rw [beq_iff_eq]; omega), if_neg (by omega), hi, hT, Option.bind_some, if_pos rfl, if_neg (by show ¬ toldTo a1 l (i : Int) l.length < -1; omega), decide_eq_false (by show ¬ toldTo a1 l (i : Int) l.length > a1; omega)]
      show peaveylaw01_MarkTold.j1 (2300 + 1) (b : Int) (i : Int) (toldTo a1 l (i : Int) l.length) false a0 a1 l = some true
      rw [peaveylaw01_MarkTold.j1, if_neg (by simp), if_pos (by omega), if_pos (by omega), mk_rd ho hil', w64 (by omega), hv, owners_val ho v (by omega), Option.bind_some, if_pos rfl]
      have hr := told_rest ho hil'
      by_cases hp : toldTo a1 l (i : Int) l.length ≥ 0
      · rw [if_pos hp, refCanBe_is v _ _ (by omega) hm (by omega), Option.bind_some]
        cases hc : canBe v (mk l i) (toldTo a1 l (i : Int) l.length)
        · rw [if_neg (by simp)]; exact hr
        · have hP := (told_le ho hil' ht1).2 (Int.le_refl _)
          have hmem : (i : Int) ∈ ownN a1 l v l.length := ownN_mem.2 ⟨i, hil', rfl, canBe_mono hc ht1⟩
          have hj : ownN a1 l v l.length = [(i : Int)] := just_of (ownN_nodup _ _ _ _) hmem fun y hy => by
            obtain ⟨j, hj, rfl, h1⟩ := ownN_mem.1 hy
            by_cases e : j = i
            · rw [e]
            · obtain ⟨-, p1, p2⟩ := canBe_both hm (mk_lt ho hj) hc h1
              have := hP j hj e p2
              omega
          rw [if_pos rfl, hj, ints_is _ _ (by simp) (by simp), Option.bind_some, decide_eq_true rfl]
          exact hr
      · rw [if_neg hp]; exact hr
  · rw [if_neg (by simpa using ho), peaveylaw01_MarkTold.j0, if_pos rfl, works_k 2301 (by omega)]; rfl
end Go.Proofs.Ytbhcchhhpmlpmaa.Pure
