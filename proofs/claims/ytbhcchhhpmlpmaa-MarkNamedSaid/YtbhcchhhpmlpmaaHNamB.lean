/- MarkNamed: the new names after some swaps, a set with other names as the law's own function says it. -/
import Derived.Test.YtbhcchhhpmlpmaaHNam
import Derived.Test.YtbhcchhhpmlpmaaPrF1
namespace Go.Proofs.Ytbhcchhhpmlpmaa.Hand
set_option linter.unusedVariables false
set_option linter.unusedSimpArgs false
open Go.RowKit Go.Proofs.YtbhcchhhpmlpmaaW.PrintWords Go.Proofs.YtbhcchhhpmlpmaaW.PrintLast Go.Proofs.YtbhcchhhpmlpmaaW.PrintMore Go.Proofs.Ytbhcchhhpmlpmaa.PrA Go.Proofs.Ytbhcchhhpmlpmaa.PrR Go.Proofs.Ytbhcchhhpmlpmaa.PrC Go.Proofs.Ytbhcchhhpmlpmaa.PrF

/-- the names at first -/
def idN (s : Nat) : List Int := (List.range s).map fun i : Nat => (i : Int)
/-- two names exchanged -/
def swapN (nm : List Int) (a b : Nat) : List Int := (nm.set a (rd nm (b : Int))).set b (rd nm (a : Int))
/-- the names after k swaps -/
def swN (s : Nat) (l : List Int) : Nat → List Int
  | 0 => idN s
  | k + 1 => swapN (swN s l k) (k % s) ((rd l (k : Int)).toNat % s)
structure NamOk (s : Nat) (nm : List Int) : Prop where
  len : nm.length = s
  ren : ∃ g, Ren s (mk nm) g
  rds : ∀ i, i < s → rd nm (i : Int) = (mk nm i : Int)
theorem rd_nat (l : List Int) (i : Nat) : rd l (i : Int) = l.getD i 0 := by simp [rd]
theorem idN_ok {s : Nat} (hs : s ≤ 10) : NamOk s (idN s) := by
  have h : ∀ i, i < s → rd (idN s) (i : Int) = (i : Int) := fun i hi => by rw [rd_nat, idN]; simp [hi]
  refine ⟨by simp [idN], ⟨fun i => i, (Ren.id hs).congr fun i hi => by rw [mk, h i hi]; simp⟩, fun i hi => by rw [mk, h i hi]; simp⟩
theorem rd_swap {nm : List Int} {a b i : Nat} (ha : a < nm.length) (hb : b < nm.length) : rd (swapN nm a b) (i : Int) = rd nm ((tau a b i : Nat) : Int) := by
  rw [rd_nat, rd_nat, swapN, rd_nat, rd_nat, List.getD_eq_getElem?_getD, List.getElem?_set, List.getElem?_set]
  unfold tau
  by_cases h1 : b = i
  · subst h1
    by_cases h2 : b = a
    · subst h2; simp [ha]
    · simp [h2, hb, List.length_set]
  · by_cases h2 : a = i
    · subst h2
      have : ¬ (b = a) := h1
      simp [this, ha]
    · have h3 : ¬ i = b := fun e => h1 e.symm
      have h4 : ¬ i = a := fun e => h2 e.symm
      simp [h1, h2, h3, h4]
theorem swapN_ok {s : Nat} {nm : List Int} (h : NamOk s nm) {a b : Nat} (ha : a < s) (hb : b < s) : NamOk s (swapN nm a b) := by
  obtain ⟨g, hg⟩ := h.ren
  have hl := h.len
  have e : ∀ i : Nat, rd (swapN nm a b) (i : Int) = rd nm ((tau a b i : Nat) : Int) := fun i => rd_swap (by omega) (by omega)
  refine ⟨by simp [swapN, hl], ⟨_, (hg.tau ha hb).congr fun i hi => by rw [mk, e i]; rfl⟩, fun i hi => ?_⟩
  rw [mk, e i, h.rds _ (tau_lt ha hb hi)]; simp
theorem swN_ok {s : Nat} (h1 : 1 ≤ s) (h10 : s ≤ 10) (l : List Int) : ∀ k, NamOk s (swN s l k)
  | 0 => idN_ok h10
  | k + 1 => swapN_ok (swN_ok h1 h10 l k) (Nat.mod_lt _ h1) (Nat.mod_lt _ h1)
theorem shl_one' {a : Nat} (h2 : a < 10) : shl .i64 1 (a : Int) = ((2 ^ a : Nat) : Int) := by
  have : a = 0 ∨ a = 1 ∨ a = 2 ∨ a = 3 ∨ a = 4 ∨ a = 5 ∨ a = 6 ∨ a = 7 ∨ a = 8 ∨ a = 9 := by omega
  rcases this with rfl | rfl | rfl | rfl | rfl | rfl | rfl | rfl | rfl | rfl <;> decide +kernel
theorem named_loop {s : Nat} {nm : List Int} (h : NamOk s nm) {m : Nat} (hm : m < 1024) : ∀ (d i : Nat), i + d = s → ∀ k, d < k → peaveylaw01_named.l0 k (m : Int) nm (namTo (mk nm) m i : Int) (i : Int) = some (namTo (mk nm) m s : Int)
  | d, i, hd, 0, hk => by omega
  | 0, i, hd, k + 1, hk => by
    rw [peaveylaw01_named.l0, if_neg (by rw [h.len]; omega), show i = s by omega]
  | d + 1, i, hd, k + 1, hk => by
    obtain ⟨g, hg⟩ := h.ren
    have h10 := hg.s10
    have hf := hg.fl i (by omega)
    have ih := named_loop h hm d (i + 1) (by omega) k (by omega)
    have hb := namTo_bits hg m (i + 1) (by omega)
    have hb0 := namTo_bits hg m i (by omega)
    rw [peaveylaw01_named.l0, if_pos (by rw [h.len]; omega), if_pos (by omega), shr_bit hm (by omega), wsucc i (by omega)]
    by_cases ht : m.testBit i = true
    · rw [if_pos ht, if_pos rfl, h.rds i (by omega), if_pos (by omega), shl_one' (by omega)]
      have e : namTo (mk nm) m (i + 1) = namTo (mk nm) m i + 2 ^ mk nm i := by rw [namTo, if_pos ht]
      rw [e] at ih hb
      rw [w64 (by omega)]
      have : (namTo (mk nm) m i : Int) + ((2 ^ mk nm i : Nat) : Int) = ((namTo (mk nm) m i + 2 ^ mk nm i : Nat) : Int) := by omega
      rw [this]
      exact ih
    · rw [if_neg ht, if_neg (by omega)]
      have e : namTo (mk nm) m (i + 1) = namTo (mk nm) m i := by rw [namTo, if_neg ht]
      rw [e] at ih
      exact ih
theorem named_is {s : Nat} {nm : List Int} (h : NamOk s nm) {m : Nat} (hm : m < 1024) {k : Nat} (hk : s < k) : peaveylaw01_named.f k (m : Int) nm = some (namTo (mk nm) m s : Int) :=
  named_loop h hm s 0 (by omega) k hk
/-- all marks with other names -/
def namL (s : Nat) (nm : List Int) (l : List Int) : Nat → List Int
  | 0 => []
  | k + 1 => namL s nm l k ++ [(namTo (mk nm) (mk l k) s : Int)]
theorem namL_length (s : Nat) (nm l : List Int) : ∀ k, (namL s nm l k).length = k
  | 0 => rfl
  | k + 1 => by rw [namL, List.length_append, namL_length s nm l k]; rfl
theorem namL_at (s : Nat) (nm l : List Int) : ∀ (k i : Nat), i < k → rd (namL s nm l k) (i : Int) = (namTo (mk nm) (mk l i) s : Int)
  | 0, i, hi => by omega
  | k + 1, i, hi => by
    rw [rd_nat, namL, List.getD_eq_getElem?_getD]
    by_cases e : i = k
    · subst e
      rw [List.getElem?_append_right (by rw [namL_length]; exact Nat.le_refl _), namL_length]
      simp
    · rw [List.getElem?_append_left (by rw [namL_length]; omega)]
      have := namL_at s nm l k i (by omega)
      rw [rd_nat, List.getD_eq_getElem?_getD] at this
      exact this
end Go.Proofs.Ytbhcchhhpmlpmaa.Hand
