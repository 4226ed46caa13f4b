/- Texts of the claim, joined: HFew, HGlue, HLaw3, HShp. -/
import Derived.Test.YtmfonbonfhngnaaGE
import Derived.Test.YtmfonbonfhngnaaGC
import Derived.Test.YtmfonbonfhngnaaPrL1
import Derived.Test.YtmfonbonfhngnaaHWorks
/- The first pocket that can take each log: as many pockets as the tableau has lines, and a run with as many logs. -/
namespace Go.Proofs.Ytmfonbonfhngnaa.Hand
set_option linter.unusedVariables false
set_option linter.unusedSimpArgs false
open Go.RowKit Go.Proofs.YtmfonbonfhngnaaW.PrintWords
set_option linter.unusedVariables false
set_option linter.unusedSimpArgs false

theorem rd_snoc (l : List Int) (x : Int) : rd (l ++ [x]) (l.length : Nat) = x := by simp [rd]
theorem rd_app {l r : List Int} {i : Nat} (h : i < l.length) : rd (l ++ r) (i : Nat) = rd l (i : Nat) := by
  simp only [rd, Int.toNat_natCast, List.getD_eq_getElem?_getD]
  rw [List.getElem?_append_left h]
theorem rd_app_right {l r : List Int} {i : Nat} (h : l.length ≤ i) : rd (l ++ r) (i : Nat) = rd r ((i - l.length : Nat)) := by
  simp only [rd, Int.toNat_natCast, List.getD_eq_getElem?_getD]
  rw [List.getElem?_append_right h]
/-- the first logs, each in the first pocket that can take it -/
structure PlI (l : List Int) (i : Nat) (last out : List Int) : Prop where
  len : out.length = i
  lt : ∀ j, j < i → 0 ≤ rd out (j : Nat) ∧ rd out (j : Nat) < last.length
  last : ∀ p : Nat, p < last.length → (∃ j, j < i ∧ rd out (j : Nat) = p ∧ rd last (p : Nat) = rd l (j : Nat)) ∧ ∀ j, j < i → rd out (j : Nat) = p → rd l (j : Nat) ≤ rd last (p : Nat)
  order : ∀ j k, j < k → k < i → rd out (j : Nat) = rd out (k : Nat) → rd l (j : Nat) ≤ rd l (k : Nat)
  back : ∀ j, j < i → rd out (j : Nat) = 0 ∨ ∃ k, k < j ∧ rd out (k : Nat) = rd out (j : Nat) - 1 ∧ rd l (j : Nat) < rd l (k : Nat)
theorem PlI.add {l last out : List Int} {i p : Nat} (h : PlI l i last out) (hi : i < l.length) (hp : p ≤ last.length) (h0 : ∀ q : Nat, q < p → rd l (i : Nat) < rd last (q : Nat)) (h1 : p < last.length → rd last (p : Nat) ≤ rd l (i : Nat)) :
    PlI l (i + 1) (if p < last.length then last.set p (rd l (i : Nat)) else last ++ [rd l (i : Nat)]) (out ++ [(p : Int)]) := by
  have hl := h.len
  obtain ⟨L, hL⟩ : ∃ L, L = (if p < last.length then last.set p (rd l (i : Nat)) else last ++ [rd l (i : Nat)]) := ⟨_, rfl⟩
  rw [← hL]
  have L1 : last.length ≤ L.length ∧ p < L.length := by
    rw [hL]; split <;> simp <;> omega
  have L2 : L.length ≤ last.length ∨ (L.length = last.length + 1 ∧ p = last.length) := by
    rw [hL]; split <;> simp <;> omega
  have Lp : rd L (p : Nat) = rd l (i : Nat) := by
    rw [hL]
    split
    · rename_i g; exact rd_set_same last g _
    · obtain rfl : p = last.length := by omega
      exact rd_snoc last _
  have Lq : ∀ q : Nat, q < last.length → q ≠ p → rd L (q : Nat) = rd last (q : Nat) := fun q hq hn => by
    rw [hL]
    split
    · exact rd_set_other last hn _
    · exact rd_app hq
  clear hL
  have O1 : ∀ j, j < i → rd (out ++ [(p : Int)]) (j : Nat) = rd out (j : Nat) := fun j hj => rd_app (by omega)
  have O2 : rd (out ++ [(p : Int)]) (i : Nat) = p := by
    have := rd_snoc out (p : Int)
    rw [hl] at this; exact this
  refine ⟨by simp [hl], fun j hj => ?_, fun q hq => ?_, fun j k hjk hk e => ?_, fun j hj => ?_⟩
  · by_cases e : j = i
    · subst e; rw [O2]; omega
    · rw [O1 j (by omega)]
      have := h.lt j (by omega)
      omega
  · by_cases e : q = p
    · subst e
      rw [Lp]
      refine ⟨⟨i, by omega, O2, rfl⟩, fun j hj e => ?_⟩
      by_cases ej : j = i
      · subst ej; exact Int.le_refl _
      · rw [O1 j (by omega)] at e
        by_cases hq' : q < last.length
        · have := (h.last q hq').2 j (by omega) e
          have := h1 hq'
          omega
        · have := h.lt j (by omega)
          omega
    · have hq' : q < last.length := by omega
      rw [Lq q hq' e]
      obtain ⟨⟨j, g1, g2, g3⟩, g4⟩ := h.last q hq'
      refine ⟨⟨j, by omega, by rw [O1 j g1]; exact g2, g3⟩, fun j hj ej => ?_⟩
      by_cases e2 : j = i
      · subst e2
        rw [O2] at ej; omega
      · rw [O1 j (by omega)] at ej
        exact g4 j (by omega) ej
  · rw [O1 j (by omega)] at e
    by_cases ek : k = i
    · subst ek
      rw [O2] at e
      by_cases hp' : p < last.length
      · have := (h.last p hp').2 j hjk e
        have := h1 hp'
        omega
      · have := h.lt j hjk
        omega
    · rw [O1 k (by omega)] at e
      exact h.order j k hjk (by omega) e
  · by_cases e : j = i
    · subst e
      rw [O2]
      by_cases hp0 : p = 0
      · left; omega
      · right
        obtain ⟨⟨k, g1, g2, g3⟩, _⟩ := h.last (p - 1) (by omega)
        have := h0 (p - 1) (by omega)
        exact ⟨k, g1, by rw [O1 k g1, g2]; omega, by omega⟩
    · rw [O1 j (by omega)]
      rcases h.back j (by omega) with g | ⟨k, g1, g2, g3⟩
      · exact .inl g
      · exact .inr ⟨k, g1, by rw [O1 k (by omega)]; exact g2, g3⟩
theorem pl_go {l : List Int} (d : Nat) : ∀ (i : Nat) {last out : List Int}, i + d = l.length → PlI l i last out → ∃ last', PlI l l.length last' (plN (l.drop i) last out) := by
  induction d with
  | zero =>
    intro i last out hi h
    rw [List.drop_eq_nil_of_le (by omega)]
    obtain rfl : i = l.length := by omega
    exact ⟨last, h⟩
  | succ d ih =>
    intro i last out hi h
    have hlt : i < l.length := by omega
    rw [List.drop_eq_getElem_cons hlt, ← rd_get l hlt, plN]
    obtain ⟨p, hp⟩ : ∃ p, p = last.findIdx (fun x => decide (x ≤ rd l (i : Nat))) := ⟨_, rfl⟩
    rw [← hp]
    have hple : p ≤ last.length := by rw [hp]; exact List.findIdx_le_length
    have h0 : ∀ q : Nat, q < p → rd l (i : Nat) < rd last (q : Nat) := fun q hq => by
      have hql : q < last.length := by omega
      have := List.not_of_lt_findIdx (p := fun x => decide (x ≤ rd l (i : Nat))) (xs := last) (i := q) (by rw [← hp]; exact hq)
      rw [rd_get last hql]
      simpa using this
    have h1 : p < last.length → rd last (p : Nat) ≤ rd l (i : Nat) := fun hpl => by
      have := List.findIdx_getElem (p := fun x => decide (x ≤ rd l (i : Nat))) (xs := last) (w := by rw [← hp]; exact hpl)
      simp only [← hp] at this
      rw [rd_get last hpl]
      simpa using this
    have hn := h.add hlt hple h0 h1
    by_cases g : p < last.length
    · rw [if_pos g] at hn ⊢
      exact ih (i + 1) (by omega) hn
    · obtain rfl : p = last.length := by omega
      rw [if_neg g] at hn ⊢
      exact ih (i + 1) (by omega) hn
theorem place_is (l : List Int) : ∃ last, PlI l l.length last (plN l [] []) := by
  have := pl_go (l := l) l.length 0 (last := []) (out := []) (by omega) ⟨rfl, fun j hj => absurd hj (Nat.not_lt_zero _), fun p hp => absurd hp (Nat.not_lt_zero _), fun j k _ hk => absurd hk (Nat.not_lt_zero _), fun j hj => absurd hj (Nat.not_lt_zero _)⟩
  rwa [List.drop_zero] at this
theorem PlI.put {l last out : List Int} (h : PlI l l.length last out) : Put l out last.length :=
  ⟨h.len, fun i hi => .inr (h.lt i hi), fun i j hij hj _ e => h.order i j hij hj e⟩
/-- all logs are turned -/
theorem cnt_all {l out : List Int} (hl : out.length = l.length) (h : ∀ i, i < l.length → 0 ≤ rd out (i : Nat)) : cntO out = l.length := by
  unfold cntO
  rw [totG_congr (g := fun _ => 1) fun i hi => if_pos (h i (by omega)), totG_const, hl, Int.mul_one]
theorem cnt_full {l out : List Int} (hl : out.length = l.length) (h : cntO out = l.length) : ∀ i, i < l.length → 0 ≤ rd out (i : Nat) := by
  intro i hi
  apply Classical.byContradiction
  intro hn
  have := totG_lt (G := fun i => if 0 ≤ rd out (i : Nat) then 1 else 0) (G' := fun _ => 1) (i := i) (k := out.length) (by omega) (fun j _ => by split <;> omega) (by simp only [hn, if_false]; omega)
  rw [totG_const, hl, Int.mul_one] at this
  unfold cntO at h
  rw [hl] at h
  omega

/-! ### runs as lists of logs -/
/-- a run: later logs, wanted before -/
def RunN (l : List Int) (x : List Nat) : Prop := x.Pairwise (fun a b => a < b ∧ rd l (b : Nat) < rd l (a : Nat)) ∧ ∀ a ∈ x, a < l.length
/-- no run has more logs than pockets that take all -/
theorem run_le {l out : List Int} {k : Nat} (hp : Put l out k) (ha : ∀ i, i < l.length → 0 ≤ rd out (i : Nat)) {x : List Nat} (h : RunN l x) : x.length ≤ k := by
  have hn : (x.map fun a => (rd out (a : Nat)).toNat).Nodup := by
    rw [List.Nodup, List.pairwise_map]
    refine h.1.imp_of_mem fun {a b} ma mb hab e => ?_
    have h1 := ha a (h.2 a ma)
    have h2 := ha b (h.2 b mb)
    have := hp.order a b hab.1 (h.2 b mb) h1 (by omega)
    omega
  have := nodup_len k _ hn (fun y hy => by
    obtain ⟨a, ma, rfl⟩ := List.mem_map.1 hy
    have := hp.range a (h.2 a ma)
    have := ha a (h.2 a ma)
    omega)
  simpa using this
theorem PlI.run {l last out : List Int} (h : PlI l l.length last out) : ∀ (p j : Nat) (x : List Nat), j < l.length → rd out (j : Nat) = p → RunN l (j :: x) → ∃ y, RunN l y ∧ y.length = p + 1 + x.length
  | 0, j, x, hj, e, hx => ⟨j :: x, hx, by simp; omega⟩
  | p + 1, j, x, hj, e, hx => by
    rcases h.back j hj with g | ⟨k, g1, g2, g3⟩
    · omega
    · obtain ⟨y, y1, y2⟩ := PlI.run h p k (j :: x) (by omega) (by omega) ⟨List.pairwise_cons.2 ⟨fun a ha => by
        rcases List.mem_cons.1 ha with rfl | ha
        · exact ⟨g1, g3⟩
        · have := (List.pairwise_cons.1 hx.1).1 a ha
          exact ⟨by omega, by omega⟩, hx.1⟩, fun a ha => by
        rcases List.mem_cons.1 ha with rfl | ha
        · omega
        · exact hx.2 a ha⟩
      exact ⟨y, y1, by rw [y2, List.length_cons]; omega⟩
/-- as many pockets as the tableau has lines -/
def lines (l : List Int) : Nat := (tabF l).length
theorem lines_le {l out : List Int} {k : Nat} (hp : Put l out k) (ha : ∀ i, i < l.length → 0 ≤ rd out (i : Nat)) : lines l ≤ k := by
  apply Classical.byContradiction
  intro hn
  have h1 := put_best hp
  rw [cnt_all hp.len ha] at h1
  have h2 := best_lt l (k := k) (by unfold lines at hn; omega)
  omega
theorem best_ge (l : List Int) : ∀ k, k ≤ (tabF l).length → k ≤ best l k
  | 0, _ => Nat.zero_le _
  | k + 1, h => by
    have := best_ge l k (by omega)
    have := lens_pos l (k := k) (by omega)
    rw [best_succ]; omega
theorem lines_le_len (l : List Int) : lines l ≤ l.length := by
  have h1 := best_ge l (lines l) (Nat.le_refl _)
  have h2 := best_le l (lines l)
  omega
/-- some turning takes as many as so many pockets take at most -/
theorem best_put {l : List Int} (hl : l.length ≤ 30) {k : Nat} (hk : k ≤ 30) : ∃ out, Put l out k ∧ cntO out = best l k := by
  obtain ⟨F, t, G, _, hd, hT⟩ := pushed_is hl k ⟨by omega, by omega⟩ 70000 (Nat.le_refl _)
  rw [Int.toNat_natCast] at hd hT
  obtain ⟨out, _, h1, h2⟩ := turned hl hd.st (by have := hd.le; omega) 63 31 (Nat.le_refl _) (Nat.le_refl _)
  have hle := hd.le
  refine ⟨out, ⟨h1.len, fun i hi => ?_, h1.order⟩, by rw [h2, hT]⟩
  have := h1.range i hi
  omega
theorem lines_put {l : List Int} (hl : l.length ≤ 30) : ∃ out, Put l out (lines l) ∧ ∀ i, i < l.length → 0 ≤ rd out (i : Nat) := by
  obtain ⟨out, h1, h2⟩ := best_put hl (k := lines l) (by have := lines_le_len l; omega)
  refine ⟨out, h1, cnt_full h1.len ?_⟩
  rw [h2, show best l (lines l) = l.length from best_all l (Nat.le_refl _)]
theorem PlI.lines {l last out : List Int} (hl : l.length ≤ 30) (h : PlI l l.length last out) : last.length = lines l := by
  have h1 := lines_le h.put (fun i hi => (h.lt i hi).1)
  have h2 : last.length ≤ Hand.lines l := by
    by_cases e : last.length = 0
    · omega
    · obtain ⟨⟨j, hj, e1, _⟩, _⟩ := h.last (last.length - 1) (by omega)
      obtain ⟨y, y1, y2⟩ := h.run (last.length - 1) j [] hj e1 ⟨by simp, fun a ha => by
        have : a = j := by simpa using ha
        omega⟩
      obtain ⟨out', hp', ha'⟩ := lines_put hl
      have := run_le hp' ha' y1
      rw [y2] at this
      simp only [List.length_nil] at this
      omega
  omega
theorem lines_all {l : List Int} (hl : l.length ≤ 30) (k : Nat) : (∃ out, Put l out k ∧ ∀ i, i < l.length → 0 ≤ rd out (i : Nat)) ↔ lines l ≤ k := by
  constructor
  · rintro ⟨out, h1, h2⟩; exact lines_le h1 h2
  · intro h
    obtain ⟨out, h1, h2⟩ := lines_put hl
    exact ⟨out, ⟨h1.len, fun i hi => by have := h1.range i hi; omega, h1.order⟩, h2⟩
/-- the greatest of the first numbers -/
theorem maxTo_is (l : List Int) : ∀ k, (∃ j, j ≤ k ∧ maxTo l k = rd l (j : Nat)) ∧ ∀ j, j ≤ k → rd l (j : Nat) ≤ maxTo l k
  | 0 => ⟨⟨0, Nat.le_refl _, rfl⟩, fun j hj => by
      obtain rfl : j = 0 := by omega
      exact Int.le_refl _⟩
  | k + 1 => by
    obtain ⟨⟨j, h1, h2⟩, h3⟩ := maxTo_is l k
    rw [maxTo]
    split
    · rename_i h
      refine ⟨⟨k + 1, Nat.le_refl _, rfl⟩, fun i hi => ?_⟩
      by_cases e : i = k + 1
      · subst e; exact Int.le_refl _
      · have := h3 i (by omega); omega
    · rename_i h
      refine ⟨⟨j, by omega, h2⟩, fun i hi => ?_⟩
      by_cases e : i = k + 1
      · subst e; omega
      · exact h3 i (by omega)
theorem PlI.max {l last out : List Int} (h : PlI l l.length last out) (h0 : l.length ≠ 0) : maxTo out (out.length - 1) + 1 = last.length := by
  obtain ⟨⟨j, h1, h2⟩, h3⟩ := maxTo_is out (out.length - 1)
  have hl := h.len
  have g1 := h.lt j (by omega)
  have hpos : 0 < last.length := by have := h.lt 0 (by omega); omega
  obtain ⟨⟨k, k1, k2, _⟩, _⟩ := h.last (last.length - 1) (by omega)
  have := h3 k (by omega)
  omega
theorem fewV_is {l : List Int} (h : rowE l = 0) (hl : l.length ≤ 30) : fewV l = ((lines l : Int), 0) := by
  obtain ⟨last, hp⟩ := place_is l
  have hll := hp.lines hl
  unfold fewV
  rw [if_neg (by omega)]
  by_cases e : l.length = 0
  · rw [if_pos (by rw [hp.len]; exact e)]
    have := lines_le_len l
    rw [show lines l = 0 by omega]; rfl
  · rw [if_neg (by rw [hp.len]; exact e), hp.max e, hll]
    have := lines_le_len l
    rw [IntWalk.wrap64_in _ ⟨by omega, by omega⟩]
end Go.Proofs.Ytmfonbonfhngnaa.Hand


/- Whole numbers of one byte. -/
namespace Go.Proofs.Ytmfonbonfhngnaa.Hand
set_option linter.unusedVariables false
set_option linter.unusedSimpArgs false
theorem wf_u8 {a : Int} (h : (Lit.int .u8 a).wf = true) : 0 ≤ a ∧ a ≤ 255 := by
  simp [Lit.wf, IntKind.min, IntKind.max, IntKind.signed, IntKind.bits] at h; omega
end Go.Proofs.Ytmfonbonfhngnaa.Hand

/- Small functions of the statements of the gap: which rows are fine, how many pockets, lists that are equal. -/
namespace Go.Proofs.Ytmfonbonfhngnaa.Hand
set_option linter.unusedVariables false
set_option linter.unusedSimpArgs false
open Go.RowKit Go.Proofs.YtmfonbonfhngnaaW.PrintWords Go.Proofs.YtmfonbonfhngnaaW.PrintLast Go.Proofs.Ytmfonbonfhngnaa.PrA Go.Proofs.Ytmfonbonfhngnaa.PrR Go.Proofs.Ytmfonbonfhngnaa.PrL
set_option linter.unusedVariables false
set_option linter.unusedSimpArgs false

theorem fine_is (l : List Int) (k : Nat) (hk : 31 ≤ k) : peaveylaw03_fine.f k l = some (decide (rowE l = 0)) := by
  unfold peaveylaw03_fine.f peaveylaw03_great.f
  rw [refRow_is l k hk]
  simp only [Option.bind_some]
  by_cases h : (l.length : Int) > 40
  · have : rowE l ≠ 0 := by unfold rowE; rw [if_pos (by omega)]; omega
    simp [h, this]
  · simp only [h, decide_false, Bool.false_eq_true, if_false]
    by_cases e : rowE l = 0
    · rw [e]; rfl
    · simp [e]
theorem pockets_is {a : Int} (h : 0 ≤ a ∧ a ≤ 255) : ∃ m : Nat, peaveylaw03_pockets.f a = some (m : Int) ∧ m ≤ 30 := by
  refine ⟨(Int.tmod a 31).toNat, ?_, ?_⟩
  · unfold peaveylaw03_pockets.f
    rw [IntWalk.wrap64_in _ ⟨by omega, by omega⟩, Int.tmod_eq_emod_of_nonneg h.1]
    congr 1; omega
  · rw [Int.tmod_eq_emod_of_nonneg h.1]; omega
theorem row_zero {l : List Int} (h : rowE l = 0) : l.length ≤ 30 ∧ ∀ a ∈ l, 1 ≤ a ∧ a ≤ 1099511627776 := by
  have : openE l 0 = 0 := by
    unfold openE
    rw [if_neg (by omega)]; rfl
  obtain ⟨_, h1, _, _, h2⟩ := open_zero this
  exact ⟨h1, h2⟩
theorem open_fine {l : List Int} {m : Int} (h : rowE l = 0) (h0 : 0 ≤ m) (h1 : m ≤ 30) : openE l m = 0 := by
  unfold openE outB
  rw [if_neg (by omega)]
  simp; omega
theorem row_of {l : List Int} (h1 : l.length ≤ 30) (h2 : ∀ a ∈ l, 1 ≤ a ∧ a ≤ 1099511627776) : rowE l = 0 := by
  unfold rowE
  rw [if_neg (by omega), if_neg]
  intro h
  obtain ⟨a, ha, ho⟩ := List.any_eq_true.1 h
  have := h2 a ha
  unfold outB at ho
  simp only [Bool.or_eq_true, decide_eq_true_eq] at ho
  omega
theorem ints_loop' (l r : List Int) (hl : l.length ≤ 1000) (hr : r.length = l.length) : ∀ (m i : Nat), i + m = l.length → ∀ k, m < k → peaveylaw03_Ints.l0 k l r i = some (decide (l.drop i = r.drop i))
  | 0, i, h, k, hk => by
    obtain ⟨k, rfl⟩ : ∃ q, k = q + 1 := ⟨k - 1, by omega⟩
    rw [peaveylaw03_Ints.l0, if_neg (by omega), List.drop_eq_nil_of_le (by omega), List.drop_eq_nil_of_le (by omega)]; simp
  | m + 1, i, h, k, hk => by
    obtain ⟨k, rfl⟩ : ∃ q, k = q + 1 := ⟨k - 1, by omega⟩
    have h1 : i < l.length := by omega
    have h2 : i < r.length := by omega
    rw [peaveylaw03_Ints.l0, if_pos (by omega), if_pos (by omega), if_pos (by omega), List.drop_eq_getElem_cons h1, List.drop_eq_getElem_cons h2, ← rd_get l h1, ← rd_get r h2]
    by_cases e : rd l (i : Nat) = rd r (i : Nat)
    · rw [if_pos e, wrap_succ (by omega), ints_loop' l r hl hr m (i + 1) (by omega) k (by omega), e]; simp
    · rw [if_neg e]; simp [e]
theorem ints_eq (l r : List Int) (hl : l.length ≤ 1000) (k : Nat) (hk : 1001 ≤ k) : peaveylaw03_Ints.f k l r = some (decide (l = r)) := by
  unfold peaveylaw03_Ints.f
  by_cases h : l.length = r.length
  · rw [if_pos (by omega)]
    have := ints_loop' l r hl h.symm l.length 0 (by omega) k (by omega)
    rw [List.drop_zero, List.drop_zero] at this
    exact this
  · rw [if_neg (by omega)]
    have : l ≠ r := fun e => h (by rw [e])
    simp [this]
end Go.Proofs.Ytmfonbonfhngnaa.Hand

/- What Most, Shape, Turning and Fewest come to: the tableau's lines; a log more, two rows together. -/
namespace Go.Proofs.Ytmfonbonfhngnaa.Hand
set_option linter.unusedVariables false
set_option linter.unusedSimpArgs false
open Go.RowKit Go.Proofs.YtmfonbonfhngnaaW.PrintWords Go.Proofs.YtmfonbonfhngnaaW.PrintLast Go.Proofs.Ytmfonbonfhngnaa.PrA Go.Proofs.Ytmfonbonfhngnaa.PrR Go.Proofs.Ytmfonbonfhngnaa.PrL
set_option linter.unusedVariables false
set_option linter.unusedSimpArgs false

/-- the lines' lengths, as numbers -/
def shapeI (l : List Int) : List Int := (lens (tabF l)).map fun n : Nat => (n : Int)
theorem shapeI_len (l : List Int) : (shapeI l).length = lines l := by simp [shapeI, lens, lines]
theorem shapeI_get (l : List Int) (k : Nat) : rd (shapeI l) (k : Nat) = ((lens (tabF l)).getD k 0 : Nat) := by
  simp only [rd, Int.toNat_natCast, shapeI, List.getD_eq_getElem?_getD, List.getElem?_map]
  cases (lens (tabF l))[k]? <;> rfl
theorem lens_le (l : List Int) (k : Nat) : (lens (tabF l)).getD k 0 ≤ l.length := by
  have h1 := best_succ l k
  have h2 := best_le l (k + 1)
  omega
theorem sumI_nat (L : List Nat) : sumI (L.map fun n : Nat => (n : Int)) = (sumL L : Int) := by
  have key : ∀ (L : List Nat) (a : Int), (L.map fun n : Nat => (n : Int)).foldl (· + ·) a = a + (sumL L : Int) := by
    intro L
    induction L with
    | nil => intro a; simp [sumL]
    | cons x L ih =>
      intro a
      rw [List.map_cons, List.foldl_cons, ih]
      show _ = a + ((x + sumL L : Nat) : Int)
      omega
  unfold sumI
  rw [key]; omega
theorem small_lens (l : List Int) (hl : l.length ≤ 30) (k : Nat) : smallB (((lens (tabF l)).take k).map fun n : Nat => (n : Int)) = true := by
  unfold smallB
  rw [List.all_eq_true]
  intro x hx
  obtain ⟨n, hn, rfl⟩ := List.mem_map.1 hx
  obtain ⟨i, hi, rfl⟩ := List.getElem_of_mem (List.mem_of_mem_take hn)
  have := lens_le l i
  rw [List.getD_eq_getElem?_getD, List.getElem?_eq_getElem hi, Option.getD_some] at this
  simp; omega
theorem most_is {l : List Int} {m : Int} (h : rowE l = 0) (h0 : 0 ≤ m) (h1 : m ≤ 30) (k : Nat) (hk : 70000 ≤ k) : gap_Most.f k l m = some ((best l m.toNat : Int), 0) := by
  obtain ⟨hl, _⟩ := row_zero h
  obtain ⟨F, t, G, e, hd, hT⟩ := pushed_is hl m ⟨h0, h1⟩ k hk
  unfold gap_Most.f
  rw [open_fine h h0 h1, if_neg (by decide), e, Option.bind_some, if_pos (small_lens l hl _), sumI_nat]
  rfl
theorem shape_is {l : List Int} (h : rowE l = 0) (k : Nat) (hk : 70000 ≤ k) : gap_Shape.f k l = some (shapeI l, 0) := by
  obtain ⟨hl, _⟩ := row_zero h
  obtain ⟨F, t, G, e, hd, hT⟩ := pushed_is hl 30 ⟨by omega, by omega⟩ k hk
  unfold gap_Shape.f
  rw [open_fine h (by omega) (by omega), if_neg (by decide), e, Option.bind_some]
  have : (lens (tabF l)).take (30 : Int).toNat = lens (tabF l) := List.take_of_length_le (by
    have := lines_le_len l
    unfold lines at this
    simp only [lens, List.length_map]
    omega)
  rw [this]; rfl
theorem turning_is {l : List Int} {m : Int} (h : rowE l = 0) (h0 : 0 ≤ m) (h1 : m ≤ 30) (k : Nat) (hk : 70000 ≤ k) : ∃ out, gap_Turning.f k l m = some (out, 0) ∧ Put l out m ∧ cntO out = best l m.toNat := by
  obtain ⟨hl, _⟩ := row_zero h
  obtain ⟨F, t, G, e, hd, hT⟩ := pushed_is hl m ⟨h0, h1⟩ k hk
  have hle := hd.le
  obtain ⟨out, e2, h2, h3⟩ := turned hl hd.st (by omega) (min k 100) (min k 100) (by omega) (by omega)
  refine ⟨out, ?_, ⟨h2.len, fun i hi => ?_, h2.order⟩, by rw [h3, hT]⟩
  · unfold gap_Turning.f
    rw [open_fine h h0 h1, if_neg (by decide), e, Option.bind_some]
    simp only
    rw [e2]; rfl
  · have := h2.range i hi; omega

/-! ### a log more -/
theorem can_none {k : Nat} : ∀ (v : List Int) (s : Nat → Int), Can k s v 0
  | [], s => .nil s
  | _ :: v, s => .skip (can_none v s)
theorem can_more {k : Nat} {s : Nat → Int} {w : List Int} {c : Nat} (h : Can k s w c) (v : List Int) : Can k s (w ++ v) c := by
  induction h with
  | nil s => exact can_none v s
  | skip _ ih => exact .skip ih
  | take hp hle _ ih => exact .take hp hle ih
theorem can_less {k : Nat} {a : Int} {w : List Int} : ∀ {s : Nat → Int} {c : Nat}, Can k s (w ++ [a]) c → Can k s w c ∨ ∃ c', c = c' + 1 ∧ Can k s w c' := by
  induction w with
  | nil =>
    intro s c h
    cases h with
    | skip h => cases h; exact .inl (.nil s)
    | take hp hle h => cases h; exact .inr ⟨0, rfl, .nil s⟩
  | cons x w ih =>
    intro s c h
    cases h with
    | skip h =>
      rcases ih h with h | ⟨c', e, h⟩
      · exact .inl (.skip h)
      · exact .inr ⟨c', e, .skip h⟩
    | take hp hle h =>
      rcases ih h with h | ⟨c', e, h⟩
      · exact .inl (.take hp hle h)
      · exact .inr ⟨c' + 1, by omega, .take hp hle h⟩
theorem best_snoc (w : List Int) (a : Int) (k : Nat) : best w k ≤ best (w ++ [a]) k ∧ best (w ++ [a]) k ≤ best w k + 1 := by
  obtain ⟨m, hm⟩ := low_bound (w ++ [a])
  have h1 := greene k w (fun _ => m) (fun _ x hx => hm x (List.mem_append_left _ hx))
  have h2 := greene k (w ++ [a]) (fun _ => m) (fun _ => hm)
  refine ⟨h2.2 _ (can_more h1.1 [a]), ?_⟩
  rcases can_less h2.1 with h | ⟨c', e, h⟩
  · have := h1.2 _ h
    unfold best; omega
  · have := h1.2 _ h
    unfold best; omega
theorem insT_length (n : Int) : ∀ T : List (List Int), T.length ≤ (insT n T).length ∧ (insT n T).length ≤ T.length + 1 := by
  intro T
  induction T generalizing n with
  | nil => simp [insT]
  | cons r T ih =>
    unfold insT
    split
    · simp
    · rename_i b hb
      have := ih b
      simp only [List.length_cons]; omega
theorem lines_snoc (w : List Int) (a : Int) : lines w ≤ lines (w ++ [a]) ∧ lines (w ++ [a]) ≤ lines w + 1 := by
  have : tabF (w ++ [a]) = insT a (tabF w) := by
    unfold tabF; rw [List.foldl_append]; rfl
  unfold lines
  rw [this]
  exact insT_length a (tabF w)
/-! ### two rows together -/
theorem Put.left {a b out : List Int} {k : Int} (h : Put (a ++ b) out k) : Put a (out.take a.length) k := by
  have hl := h.len
  rw [List.length_append] at hl
  have e : ∀ i, i < a.length → rd (out.take a.length) (i : Nat) = rd out (i : Nat) := fun i hi => by
    simp only [rd, Int.toNat_natCast, List.getD_eq_getElem?_getD]
    rw [List.getElem?_take_of_lt hi]
  refine ⟨by simp; omega, fun i hi => ?_, fun i j hij hj h0 he => ?_⟩
  · rw [e i hi]; exact h.range i (by rw [List.length_append]; omega)
  · rw [e i (by omega)] at h0 he
    rw [e j hj] at he
    have := h.order i j hij (by rw [List.length_append]; omega) h0 he
    rwa [rd_app (by omega), rd_app hj] at this
theorem rd_drop (l : List Int) (c i : Nat) : rd (l.drop c) (i : Nat) = rd l ((c + i : Nat)) := by
  simp only [rd, Int.toNat_natCast, List.getD_eq_getElem?_getD, List.getElem?_drop]
theorem Put.right {a b out : List Int} {k : Int} (h : Put (a ++ b) out k) : Put b (out.drop a.length) k := by
  have hl := h.len
  rw [List.length_append] at hl
  have e2 : ∀ i, rd (a ++ b) ((a.length + i : Nat)) = rd b (i : Nat) := fun i => by
    rw [rd_app_right (by omega), show a.length + i - a.length = i by omega]
  refine ⟨by simp; omega, fun i hi => ?_, fun i j hij hj h0 he => ?_⟩
  · rw [rd_drop]; exact h.range _ (by rw [List.length_append]; omega)
  · rw [rd_drop] at h0 he
    rw [rd_drop] at he
    have := h.order _ (a.length + j) (by omega) (by rw [List.length_append]; omega) h0 he
    rwa [e2, e2] at this
theorem lines_app_ge {a b : List Int} (hl : (a ++ b).length ≤ 30) : lines a ≤ lines (a ++ b) ∧ lines b ≤ lines (a ++ b) := by
  obtain ⟨out, h1, h2⟩ := lines_put hl
  have hlo := h1.len
  rw [List.length_append] at hlo h2
  constructor
  · refine lines_le h1.left fun i hi => ?_
    have := h2 i (by omega)
    simp only [rd, Int.toNat_natCast, List.getD_eq_getElem?_getD] at this ⊢
    rwa [List.getElem?_take_of_lt hi]
  · refine lines_le h1.right fun i hi => ?_
    rw [rd_drop]
    exact h2 _ (by omega)
/-- two turnings, one behind the other -/
theorem put_join {a b oa ob : List Int} {k : Nat} {d : Int} {f g : Nat} (ha : Put a oa f) (hb : Put b ob g) (fa : ∀ i, i < a.length → 0 ≤ rd oa (i : Nat)) (fb : ∀ i, i < b.length → 0 ≤ rd ob (i : Nat))
    (hd0 : 0 ≤ d) (h1 : (f : Int) ≤ k) (h2 : (g : Int) + d ≤ k) (h3 : (f : Int) ≤ d ∨ ∀ i j, i < a.length → j < b.length → rd a (i : Nat) ≤ rd b (j : Nat)) : ∃ out, Put (a ++ b) out k ∧ ∀ i, i < (a ++ b).length → 0 ≤ rd out (i : Nat) := by
  have la := ha.len
  have lb := hb.len
  obtain ⟨ob', hob⟩ : ∃ ob', ob' = ob.map (· + d) := ⟨_, rfl⟩
  have lb' : ob'.length = b.length := by rw [hob, List.length_map, lb]
  have eb : ∀ i, i < b.length → rd ob' (i : Nat) = rd ob (i : Nat) + d := fun i hi => by
    rw [rd_get ob' (by omega), rd_get ob (by omega)]
    simp only [hob, List.getElem_map]
  have cases : ∀ i, i < (a ++ b).length → (i < a.length ∧ rd (oa ++ ob') (i : Nat) = rd oa (i : Nat) ∧ rd (a ++ b) (i : Nat) = rd a (i : Nat)) ∨ ∃ j, i = a.length + j ∧ j < b.length ∧ rd (oa ++ ob') (i : Nat) = rd ob (j : Nat) + d ∧ rd (a ++ b) (i : Nat) = rd b (j : Nat) := by
    intro i hi
    rw [List.length_append] at hi
    by_cases h : i < a.length
    · exact .inl ⟨h, rd_app (by omega), rd_app h⟩
    · refine .inr ⟨i - a.length, by omega, by omega, ?_, rd_app_right (by omega)⟩
      rw [rd_app_right (by omega), la, eb _ (by omega)]
  refine ⟨oa ++ ob', ⟨by simp [la, lb'], fun i hi => ?_, fun i j hij hj h0 he => ?_⟩, fun i hi => ?_⟩
  · rcases cases i hi with ⟨g1, g2, _⟩ | ⟨j, g1, g2, g3, _⟩
    · rw [g2]
      have := ha.range i g1
      have := fa i g1
      omega
    · rw [g3]
      have := hb.range j g2
      have := fb j g2
      omega
  · rcases cases i (by omega) with ⟨g1, g2, g3⟩ | ⟨i', g1, g2, g3, g4⟩
    · rcases cases j hj with ⟨k1, k2, k3⟩ | ⟨j', k1, k2, k3, k4⟩
      · rw [g3, k3]
        rw [g2] at h0 he
        rw [k2] at he
        exact ha.order i j hij k1 h0 he
      · rw [g3, k4]
        rcases h3 with h3 | h3
        · rw [g2, k3] at he
          have := ha.range i g1
          have := fa i g1
          have := fb j' k2
          omega
        · exact h3 i j' g1 k2
    · rcases cases j hj with ⟨k1, k2, k3⟩ | ⟨j', k1, k2, k3, k4⟩
      · omega
      · rw [g4, k4]
        rw [g3, k3] at he
        exact hb.order i' j' (by omega) k2 (fb i' g2) (by omega)
  · rcases cases i hi with ⟨g1, g2, _⟩ | ⟨j, g1, g2, g3, _⟩
    · rw [g2]; exact fa i g1
    · rw [g3]
      have := fb j g2
      omega
theorem lines_app_le {a b : List Int} (hl : (a ++ b).length ≤ 30) : lines (a ++ b) ≤ lines a + lines b := by
  rw [List.length_append] at hl
  obtain ⟨oa, h1, h2⟩ := lines_put (l := a) (by omega)
  obtain ⟨ob, h3, h4⟩ := lines_put (l := b) (by omega)
  obtain ⟨out, g1, g2⟩ := put_join (k := lines a + lines b) (d := lines a) h1 h3 h2 h4 (by omega) (by omega) (by omega) (.inl (Int.le_refl _))
  exact lines_le g1 g2
theorem lines_app_max {a b : List Int} (hl : (a ++ b).length ≤ 30) (h : ∀ i j, i < a.length → j < b.length → rd a (i : Nat) ≤ rd b (j : Nat)) : lines (a ++ b) = max (lines a) (lines b) := by
  have hge := lines_app_ge hl
  rw [List.length_append] at hl
  obtain ⟨oa, h1, h2⟩ := lines_put (l := a) (by omega)
  obtain ⟨ob, h3, h4⟩ := lines_put (l := b) (by omega)
  obtain ⟨out, g1, g2⟩ := put_join (k := max (lines a) (lines b)) (d := 0) h1 h3 h2 h4 (by omega) (by omega) (by omega) (.inr h)
  have := lines_le g1 g2
  omega
end Go.Proofs.Ytmfonbonfhngnaa.Hand
