/- Words that the laws over valid offices share. -/
import Derived.Test.YtbhcchhhpmlpmaaMD
import Derived.Test.YtbhcchhhpmlpmaaPrC1
namespace Go.Proofs.Ytbhcchhhpmlpmaa.Hand
set_option linter.unusedVariables false
set_option linter.unusedSimpArgs false
open Go.RowKit Go.Proofs.YtbhcchhhpmlpmaaW.PrintWords Go.Proofs.YtbhcchhhpmlpmaaW.PrintLast Go.Proofs.YtbhcchhhpmlpmaaW.PrintMore Go.Proofs.Ytbhcchhhpmlpmaa.PrA Go.Proofs.Ytbhcchhhpmlpmaa.PrR Go.Proofs.Ytbhcchhhpmlpmaa.PrC

theorem wf_u16 {a : Int} (h : (Lit.int .u16 a).wf = true) : 0 ≤ a ∧ a ≤ 65535 := by
  simp [Lit.wf, IntKind.min, IntKind.max, IntKind.signed, IntKind.bits] at h; omega
theorem wf_u8 {a : Int} (h : (Lit.int .u8 a).wf = true) : 0 ≤ a ∧ a ≤ 255 := by
  simp [Lit.wf, IntKind.min, IntKind.max, IntKind.signed, IntKind.bits] at h; omega
theorem fine_is (a0 a1 : Int) (l : List Int) {k : Nat} (hk : 20 ≤ k) : peaveylaw01_fine.f k a0 a1 l = some (decide (officeN a0 a1 l = 0)) := by
  unfold peaveylaw01_fine.f
  rw [great_is, refOffice_is a0 a1 l hk]
  by_cases ho : officeN a0 a1 l = 0
  · have := (office_zero ho).2.2.2.2.1
    rw [ho]
    simp; omega
  · by_cases hg : 20 < l.length
    · simp [hg, ho]
    · simp [hg, ho]
theorem office_loss {a0 a1 b : Int} {l : List Int} (ho : officeN a0 a1 l = 0) (h0 : 0 ≤ b) (h1 : b ≤ a0) : officeN a0 b l = 0 := by
  have hz := office_zero ho
  unfold officeN at ho ⊢
  have e1 : outB 1 10 a0 = false := by simp [outB]; omega
  have e2 : outB 0 a0 b = false := by simp [outB]; omega
  have e3 : outB 0 a0 a1 = false := by simp [outB]; omega
  rw [e1, e3] at ho
  rw [e1, e2]
  exact ho
theorem owners_val {a0 b : Int} {l : List Int} (ho : officeN a0 b l = 0) (w : Nat) (hw : (w : Int) ≤ allN a0) : mark_Owners.f a0 b l (w : Int) = some (ownN b l w l.length, 0) := by
  have hz := office_zero ho
  have h2 := allN_lt hz.2.1
  unfold mark_Owners.f
  have h1 : outB 0 (allN a0) (w : Int) = false := by simp [outB]; omega
  rw [if_neg (fun h => h ho), h1, ownTo_is ho w (by omega) _ (Nat.le_refl _)]; rfl
/-- the owners of a worn mark, as a list that is filtered -/
theorem ownN_filter (b : Int) (l : List Int) (w : Nat) : ∀ n, ownN b l w n = ((List.range n).filter fun i => canBe w (mk l i) b).map fun i : Nat => (i : Int)
  | 0 => rfl
  | n + 1 => by
    rw [ownN, ownN_filter b l w n, List.range_succ, List.filter_append, List.map_append]
    congr 1
    rw [List.filter_cons]
    split <;> simp
theorem ownN_mem {b : Int} {l : List Int} {w n : Nat} {x : Int} : x ∈ ownN b l w n ↔ ∃ i, i < n ∧ x = (i : Int) ∧ canBe w (mk l i) b = true := by
  rw [ownN_filter, List.mem_map]
  constructor
  · rintro ⟨i, hi, rfl⟩
    rw [List.mem_filter, List.mem_range] at hi
    exact ⟨i, hi.1, rfl, hi.2⟩
  · rintro ⟨i, hi, rfl, h⟩
    exact ⟨i, List.mem_filter.2 ⟨List.mem_range.2 hi, h⟩, rfl⟩
theorem ownN_nodup (b : Int) (l : List Int) (w n : Nat) : (ownN b l w n).Nodup := by
  rw [ownN_filter]
  exact List.Pairwise.map _ (fun a b h => by omega) ((List.nodup_range).filter _)
theorem one_of {l : List Int} (hn : l.Nodup) (h : ∀ x ∈ l, ∀ y ∈ l, x = y) : l.length ≤ 1 := by
  match l, hn, h with
  | [], _, _ => simp
  | [x], _, _ => simp
  | x :: y :: r, hn, h =>
    have := h x (by simp) y (by simp)
    subst this
    simp at hn
theorem just_of {l : List Int} (hn : l.Nodup) {x : Int} (hx : x ∈ l) (h : ∀ y ∈ l, y = x) : l = [x] := by
  have h1 := one_of hn (fun a ha b hb => (h a ha).trans (h b hb).symm)
  match l, h1, hx with
  | [y], _, hx => rw [show x = y by simpa using hx]
theorem two_of {l : List Int} {x y : Int} (hx : x ∈ l) (hy : y ∈ l) (hne : x ≠ y) : 2 ≤ l.length := by
  match l, hx, hy with
  | [z], hx, hy =>
    have h1 : x = z := by simpa using hx
    have h2 : y = z := by simpa using hy
    exact absurd (h1.trans h2.symm) hne
  | _ :: _ :: _, _, _ => simp
theorem shl_one {a0 : Int} (h1 : 1 ≤ a0) (h2 : a0 ≤ 10) : shl .i64 1 a0 = allN a0 + 1 := by
  have : a0 = 1 ∨ a0 = 2 ∨ a0 = 3 ∨ a0 = 4 ∨ a0 = 5 ∨ a0 = 6 ∨ a0 = 7 ∨ a0 = 8 ∨ a0 = 9 ∨ a0 = 10 := by omega
  rcases this with rfl | rfl | rfl | rfl | rfl | rfl | rfl | rfl | rfl | rfl <;> decide +kernel
/-- a number, brought below one -/
theorem tmod_nat {a n : Int} (ha : 0 ≤ a) (ha2 : a ≤ 65535) (hn : 0 < n) : ∃ w : Nat, Int.tmod (wrap64 a) n = (w : Int) ∧ (w : Int) < n := by
  rw [w64 (by omega), Int.tmod_eq_emod_of_nonneg ha]
  have h1 := Int.emod_nonneg a (show n ≠ 0 by omega)
  have h2 := Int.emod_lt_of_pos a hn
  exact ⟨(a % n).toNat, by omega, by omega⟩
theorem tmod_nat' {a n : Nat} (hn : 0 < n) : Int.tmod (a : Int) (n : Int) = ((a % n : Nat) : Int) := by
  rw [Int.tmod_eq_emod_of_nonneg (by omega)]; rfl
end Go.Proofs.Ytbhcchhhpmlpmaa.Hand
