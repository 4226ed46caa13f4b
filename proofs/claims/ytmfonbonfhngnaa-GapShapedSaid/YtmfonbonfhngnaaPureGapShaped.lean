/- GapShaped: the numbers of Shape. -/
import Derived.Test.YtmfonbonfhngnaaGshap2
import Derived.Test.YtmfonbonfhngnaaGG
namespace Go.Proofs.Ytmfonbonfhngnaa.Pure
set_option linter.unusedVariables false
set_option linter.unusedSimpArgs false
open Go.RowKit Go.Proofs.Ytmfonbonfhngnaa.Gshap Go.Proofs.Ytmfonbonfhngnaa.PrA Go.Proofs.Ytmfonbonfhngnaa.PrR Go.Proofs.Ytmfonbonfhngnaa.PrL Go.Proofs.Ytmfonbonfhngnaa.Hand Go.Proofs.YtmfonbonfhngnaaW.PrintWords Go.Proofs.YtmfonbonfhngnaaW.PrintLast
set_option linter.unusedVariables false
set_option linter.unusedSimpArgs false

/-- a part of the row, from its end on, whose numbers do not increase that way -/
def UpN (l : List Int) (x : List Nat) : Prop := x.Pairwise (fun a b => b < a ∧ rd l (b : Nat) ≤ rd l (a : Nat)) ∧ ∀ a ∈ x, a < l.length
theorem upN_le {l : List Int} {x : List Nat} (h : UpN l x) : x.length ≤ best l 1 := by
  have hn : x.Nodup := h.1.imp fun h e => by omega
  obtain ⟨out, hout⟩ : ∃ out, out = (List.range l.length).map fun i => if i ∈ x then (0 : Int) else -1 := ⟨_, rfl⟩
  have hlen : out.length = l.length := by rw [hout]; simp
  have hrd : ∀ i, i < l.length → rd out (i : Nat) = if i ∈ x then (0 : Int) else -1 := fun i hi => by
    rw [rd_get out (by omega)]
    simp [hout]
  have hput : Put l out (1 : Nat) := by
    refine ⟨hlen, fun i hi => ?_, fun i j hij hj h0 he => ?_⟩
    · rw [hrd i hi]; split <;> omega
    · rw [hrd i (by omega)] at h0 he
      rw [hrd j hj] at he
      have hi : i ∈ x := by
        apply Classical.byContradiction
        intro hh; rw [if_neg hh] at h0; omega
      rw [if_pos hi] at he
      have hj' : j ∈ x := by
        apply Classical.byContradiction
        intro hh; rw [if_neg hh] at he; omega
      have hpw := h.1
      rw [List.pairwise_iff_getElem] at hpw
      obtain ⟨p, hp, rfl⟩ := List.getElem_of_mem hi
      obtain ⟨q, hq, rfl⟩ := List.getElem_of_mem hj'
      by_cases hpq : p < q
      · have := (hpw p q hp hq hpq).1; omega
      · by_cases hqp : q < p
        · exact (hpw q p hq hp hqp).2
        · obtain rfl : p = q := by omega
          omega
  have hc : cntO out = x.length := by
    rw [← natsI_len, ← sumX_one, sumX_count (fun _ => 1) (n := l.length) (natsI x) fun i hi => by
      obtain ⟨a, ha, rfl⟩ := List.mem_map.1 hi
      have := h.2 a ha; omega]
    unfold cntO
    rw [hlen]
    refine totG_congr fun i hi => ?_
    rw [hrd i hi]
    have hcount : (natsI x).count (i : Int) = if i ∈ x then 1 else 0 := by
      unfold natsI
      rw [List.count_eq_countP, List.countP_map]
      have : (List.countP ((fun y => y == (i : Int)) ∘ fun n : Nat => (n : Int)) x) = x.count i := by
        rw [List.count_eq_countP]
        refine List.countP_congr fun a _ => ?_
        simp only [Function.comp, beq_iff_eq]
        omega
      rw [this]
      split
      · rename_i hm
        have g1 := List.nodup_iff_count.1 hn i
        have g2 := List.count_pos_iff.2 hm
        omega
      · rename_i hm; exact List.count_eq_zero.2 hm
    rw [hcount]
    by_cases hm : i ∈ x
    · rw [if_pos hm, if_pos hm, if_pos (by omega)]; omega
    · rw [if_neg hm, if_neg hm, if_neg (by omega)]; omega
  have := put_best hput
  omega
theorem upN_best {l : List Int} (hl : l.length ≤ 30) : ∃ x, UpN l x ∧ x.length = best l 1 := by
  obtain ⟨out, h1, h2⟩ := best_put hl (k := 1) (by omega)
  refine ⟨((List.range l.length).filter fun i => decide (0 ≤ rd out (i : Nat))).reverse, ⟨?_, fun a ha => ?_⟩, ?_⟩
  · rw [List.pairwise_reverse]
    refine List.Pairwise.imp_of_mem (R := fun a b => a < b ∧ b < l.length) (fun {a b} ma mb hab => ⟨hab.1, ?_⟩) (List.Pairwise.filter _ (range_pairwise _ fun i j hij hj => ⟨hij, hj⟩))
    have a0 := of_decide_eq_true (List.mem_filter.1 ma).2
    have b0 := of_decide_eq_true (List.mem_filter.1 mb).2
    have r1 := h1.range a (by omega)
    have r2 := h1.range b hab.2
    exact h1.order a b hab.1 hab.2 a0 (by omega)
  · exact List.mem_range.1 (List.mem_filter.1 (List.mem_reverse.1 ha)).1
  · rw [List.length_reverse]
    have : ((((List.range l.length).filter fun i => decide (0 ≤ rd out (i : Nat))).length : Nat) : Int) = cntO out := by
      rw [← List.countP_eq_length_filter, count_tot]
      unfold cntO
      rw [h1.len]
      refine totG_congr fun i _ => ?_
      simp only [decide_eq_true_eq]
    omega
theorem upN_tail {l : List Int} {i q : Nat} {z : List Nat} (h : UpN l (i :: q :: z)) : q < i ∧ rd l (q : Nat) ≤ rd l (i : Nat) ∧ UpN l (q :: z) := by
  obtain ⟨h1, h2⟩ := List.pairwise_cons.1 h.1
  have := h1 q List.mem_cons_self
  exact ⟨this.1, this.2, h2, fun a ha => h.2 a (List.mem_cons_of_mem _ ha)⟩
theorem upN_add {l : List Int} {i q : Nat} {z : List Nat} (hi : i < l.length) (h1 : q < i) (h2 : rd l (q : Nat) ≤ rd l (i : Nat)) (h : UpN l (q :: z)) : UpN l (i :: q :: z) := by
  refine ⟨List.pairwise_cons.2 ⟨fun a ha => ?_, h.1⟩, fun a ha => ?_⟩
  · rcases List.mem_cons.1 ha with rfl | ha
    · exact ⟨h1, h2⟩
    · have := (List.pairwise_cons.1 h.1).1 a ha
      exact ⟨by omega, by omega⟩
  · rcases List.mem_cons.1 ha with rfl | ha
    · exact hi
    · exact h.2 a ha
theorem upN_one {l : List Int} {i : Nat} (hi : i < l.length) : UpN l [i] := ⟨by simp, fun a ha => by
  obtain rfl : a = i := by simpa using ha
  exact hi⟩
/-- a number is the length of the longest part that ends with a log -/
def EndL (l : List Int) (i : Nat) (v : Int) : Prop := (∃ y, UpN l (i :: y) ∧ ((i :: y).length : Int) = v) ∧ ∀ y, UpN l (i :: y) → ((i :: y).length : Int) ≤ v
theorem up_len {l : List Int} {x : List Nat} (h : UpN l x) : x.length ≤ l.length := nodup_len l.length x (h.1.imp fun h e => by omega) h.2
/-- .. of those that came over a log before another one -/
def PartL (l : List Int) (i k : Nat) (v : Int) : Prop := (∃ y, UpN l (i :: y) ∧ ((i :: y).length : Int) = v) ∧ 1 ≤ v ∧ ∀ q z, q < k → UpN l (i :: q :: z) → ((i :: q :: z).length : Int) ≤ v
theorem longest_in {l : List Int} (hl : l.length ≤ 30) (b : Int) {i : Nat} (hi : i < l.length) (K : Nat) (d : Nat) : ∀ (k : Nat) (long : List Int), k + d = i → long.length = l.length → (∀ j, j < i → EndL l j (rd long (j : Nat))) → PartL l i k (rd long (i : Nat)) →
    ∃ long', peaveylaw03_longest.l1 (K + d + 1) l b long i k = peaveylaw03_longest.l0 K l (mx b (rd long' (i : Nat))) long' (wrap64 ((i : Int) + 1)) ∧ long'.length = l.length ∧ ∀ j, j < i + 1 → EndL l j (rd long' (j : Nat)) := by
  induction d with
  | zero =>
    intro k long hk hlen hj hp
    refine ⟨long, ?_, hlen, fun j hj' => ?_⟩
    · rw [show K + 0 + 1 = K + 1 from rfl, peaveylaw03_longest.l1, if_neg (by omega), if_pos (by omega), if_pos (by omega)]
    · by_cases e : j = i
      · subst e
        refine ⟨hp.1, fun y hy => ?_⟩
        cases y with
        | nil => exact hp.2.1
        | cons q z => exact hp.2.2 q z (by have := (upN_tail hy).1; omega) hy
      · exact hj j (by omega)
  | succ d ih =>
    intro k long hk hlen hj hp
    rw [show K + (d + 1) + 1 = (K + d + 1) + 1 by omega, peaveylaw03_longest.l1, if_pos (by omega), if_pos (by omega), if_pos (by omega), if_pos (by omega), if_pos (by omega)]
    obtain ⟨⟨yk, yk1, yk2⟩, yk3⟩ := hj k (by omega)
    obtain ⟨⟨yi, yi1, yi2⟩, yi3, yi4⟩ := hp
    have b1 := up_len yk1
    have b2 := up_len yi1
    by_cases hr : rd l (k : Nat) ≤ rd l (i : Nat)
    · rw [if_pos hr, if_pos (by omega), if_pos (by omega), Int.toNat_natCast, wrap_succ (i := k) (by omega), IntWalk.wrap64_in (rd long (k : Nat) + 1) ⟨by omega, by omega⟩]
      refine ih (k + 1) _ (by omega) (by rw [List.length_set]; exact hlen) (fun j hj' => by rw [rd_set_other long (by omega)]; exact hj j hj') ?_
      rw [rd_set_same long (by omega)]
      refine ⟨?_, by unfold mx; split <;> omega, fun q z hq hu => ?_⟩
      · unfold mx
        split
        · exact ⟨k :: yk, upN_add hi (by omega) hr yk1, by rw [← yk2, List.length_cons]; omega⟩
        · exact ⟨yi, yi1, yi2⟩
      · obtain ⟨u1, u2, u3⟩ := upN_tail hu
        by_cases e : q = k
        · subst e
          have := yk3 z u3
          rw [List.length_cons] at this
          rw [List.length_cons, List.length_cons]
          unfold mx; split <;> omega
        · have := yi4 q z (by omega) hu
          unfold mx; split <;> omega
    · rw [if_neg hr, wrap_succ (i := k) (by omega)]
      refine ih (k + 1) long (by omega) hlen hj ⟨⟨yi, yi1, yi2⟩, yi3, fun q z hq hu => ?_⟩
      obtain ⟨u1, u2, u3⟩ := upN_tail hu
      by_cases e : q = k
      · subst e; exact absurd u2 hr
      · exact yi4 q z (by omega) hu
theorem longest_go {l : List Int} (hl : l.length ≤ 30) (d : Nat) : ∀ (i K : Nat) (b : Int) (long : List Int), i + d = l.length → d * 40 < K → long.length = l.length → (∀ j, j < i → EndL l j (rd long (j : Nat))) →
    (∀ j, j < i → rd long (j : Nat) ≤ b) → (b = 0 ∧ i = 0 ∨ ∃ x, UpN l x ∧ (x.length : Int) = b) → peaveylaw03_longest.l0 K l b long i = some (best l 1 : Int) := by
  induction d with
  | zero =>
    intro i K b long hi hK hlen h1 h2 h3
    obtain ⟨K, rfl⟩ : ∃ q, K = q + 1 := ⟨K - 1, by omega⟩
    rw [peaveylaw03_longest.l0, if_neg (by omega)]
    congr 1
    obtain ⟨x, x1, x2⟩ := upN_best hl
    rcases h3 with ⟨h3, h4⟩ | ⟨y, y1, y2⟩
    · have := best_le l 1
      omega
    · have := upN_le y1
      cases x with
      | nil => simp at x2; omega
      | cons a x =>
        have ha := x1.2 a List.mem_cons_self
        have g1 := (h1 a (by omega)).2 x x1
        have g2 := h2 a (by omega)
        omega
  | succ d ih =>
    intro i K b long hi hK hlen h1 h2 h3
    obtain ⟨K, rfl⟩ : ∃ q, K = q + i + 1 + 1 := ⟨K - i - 2, by omega⟩
    have hlt : i < l.length := by omega
    rw [peaveylaw03_longest.l0, if_pos (by omega), if_pos (by omega), if_pos (by omega), Int.toNat_natCast]
    obtain ⟨long', e1, e2, e3⟩ := longest_in hl b hlt K i 0 (long.set i 1) (by omega) (by rw [List.length_set]; exact hlen) (fun j hj => by rw [rd_set_other long (by omega)]; exact h1 j hj) (by
      rw [rd_set_same long (by omega)]
      exact ⟨⟨[], upN_one hlt, rfl⟩, Int.le_refl _, fun q z hq => absurd hq (Nat.not_lt_zero _)⟩)
    rw [show (((0 : Nat)) : Int) = 0 from rfl] at e1
    rw [e1, wrap_succ (by omega)]
    refine ih (i + 1) K _ long' (by omega) (by omega) e2 e3 (fun j hj => ?_) ?_
    · by_cases e : j = i
      · subst e; unfold mx; split <;> omega
      · -- what was found before is found still
        obtain ⟨⟨y, y1, y2⟩, y3⟩ := e3 j hj
        have g1 := (h1 j (by omega)).2 y y1
        have g2 := h2 j (by omega)
        unfold mx; split <;> omega
    · right
      obtain ⟨⟨y, y1, y2⟩, y3⟩ := e3 i (by omega)
      unfold mx
      split
      · exact ⟨i :: y, y1, y2⟩
      · rename_i hc
        rcases h3 with ⟨h3, h4⟩ | h3
        · rw [List.length_cons] at y2; omega
        · exact h3
theorem longest_is {l : List Int} (hl : l.length ≤ 30) (K : Nat) (hK : 2000 ≤ K) : peaveylaw03_longest.f K l = some (best l 1 : Int) := by
  unfold peaveylaw03_longest.f
  rw [if_pos (by omega), Int.toNat_natCast, if_pos (by omega)]
  exact longest_go hl l.length 0 K 0 _ (by omega) (by omega) (by simp) (fun j hj => absurd hj (Nat.not_lt_zero _)) (fun j hj => absurd hj (Nat.not_lt_zero _)) (.inl ⟨rfl, rfl⟩)
theorem lens_step (l : List Int) (i : Nat) (h : i + 1 < lines l) : (lens (tabF l)).getD (i + 1) 0 ≤ (lens (tabF l)).getD i 0 := by
  have hp := lens_down (tabF_tab l).over
  rw [List.pairwise_iff_getElem] at hp
  have := hp i (i + 1) (by unfold lines at h; omega) (by unfold lines at h; omega) (by omega)
  rw [List.getD_eq_getElem?_getD, List.getD_eq_getElem?_getD, List.getElem?_eq_getElem (by simp [lens]; unfold lines at h; omega), List.getElem?_eq_getElem (by simp [lens]; unfold lines at h; omega)]
  simp only [lens, List.getElem_map, Option.getD_some]
  exact this
theorem shaped_go {l : List Int} (h : rowE l = 0) (d : Nat) : ∀ (i K : Nat), i + d = lines l → 70100 + d * 2 < K → peaveylaw03_GapShaped.l0 K l (shapeI l) (best l i) i = some true := by
  obtain ⟨hl, _⟩ := row_zero h
  have hll := lines_le_len l
  induction d with
  | zero =>
    intro i K hi hK
    obtain ⟨K, rfl⟩ : ∃ q, K = q + 1 := ⟨K - 1, by omega⟩
    rw [peaveylaw03_GapShaped.l0, shapeI_len, if_neg (by omega), best_all l (by unfold lines at hi; omega), if_pos rfl, works_k]
    by_cases h0 : (l.length : Int) = 0
    · rw [if_pos h0]; rfl
    · rw [if_neg h0]
      have hpos : 0 < lines l := by
        apply Classical.byContradiction
        intro hn
        have := best_all l (k := 0) (by unfold lines at hn; omega)
        rw [best_zero] at this
        omega
      have h1 := shapeI_get l 0
      have h2 : best l 1 = best l 0 + (lens (tabF l)).getD 0 0 := best_succ l 0
      rw [best_zero] at h2
      rw [if_pos (by omega), longest_is hl K (by omega), Option.bind_some, if_pos (by rw [show ((0 : Int)) = ((0 : Nat) : Int) from rfl, h1]; omega)]; rfl
  | succ d ih =>
    intro i K hi hK
    obtain ⟨K, rfl⟩ : ∃ q, K = q + 2 := ⟨K - 2, by omega⟩
    have hg := shapeI_get l i
    have hpos := lens_pos l (k := i) (by unfold lines at hi; omega)
    have hle := lens_le l i
    have hbs := best_succ l i
    have hbl := best_le l (i + 1)
    have key : peaveylaw03_GapShaped.j2 (K + 1) l (shapeI l) (best l i) i false = some true := by
      rw [peaveylaw03_GapShaped.j2, if_neg (by decide), if_pos (by omega), shapeI_len, if_pos (by omega), wrap_succ (by omega), most_is h (by omega) (by omega) K (by omega), Option.bind_some, hg]
      simp only [if_true, Int.toNat_natCast]
      have hw : wrap64 ((best l i : Int) + ((lens (tabF l)).getD i 0 : Nat)) = (best l (i + 1) : Int) := by
        rw [IntWalk.wrap64_in _ ⟨by omega, by omega⟩]; omega
      rw [hw, if_pos rfl]
      clear hw
      exact ih (i + 1) K (by omega) (by omega)
    rw [show K + 2 = (K + 1) + 1 from rfl, peaveylaw03_GapShaped.l0, shapeI_len, if_pos (by omega), if_pos (by omega), hg, if_neg (by omega), if_neg (by omega)]
    by_cases e : (i : Int) > 0
    · obtain ⟨j, rfl⟩ : ∃ j, i = j + 1 := ⟨i - 1, by omega⟩
      have hd := lens_step l j (by omega)
      have hw : wrap64 (((j + 1 : Nat) : Int) - 1) = (j : Int) := by rw [IntWalk.wrap64_in _ ⟨by omega, by omega⟩]; omega
      rw [if_pos e, hw]
      clear hw
      rw [if_pos (by omega), if_pos (by omega), shapeI_get l j, show decide ((((lens (tabF l)).getD (j + 1) 0 : Nat) : Int) > ((lens (tabF l)).getD j 0 : Nat)) = false from decide_eq_false (by omega)]
      exact key
    · rw [if_neg e]; exact key
theorem GapShaped : peaveylaw03_GapShaped.Pure := by
  intro l _ _ _
  refine ⟨80000, ?_⟩
  unfold peaveylaw03_GapShaped.f
  rw [fine_is l 80000 (by omega), Option.bind_some]
  by_cases h : rowE l = 0
  · obtain ⟨hl, _⟩ := row_zero h
    have hll := lines_le_len l
    rw [if_pos (decide_eq_true h), shape_is h 80000 (by omega), Option.bind_some, gap_Fewest.f, fewV_is h hl, Option.bind_some]
    simp only [if_true]
    rw [shapeI_len, if_pos rfl, show decide ((lines l : Int) > (l.length : Int)) = false from decide_eq_false (by omega)]
    have : ∀ K, 70201 < K → peaveylaw03_GapShaped.j0 K l (shapeI l) false = some true := by
      intro K hK
      obtain ⟨K, rfl⟩ : ∃ q, K = q + 1 := ⟨K - 1, by omega⟩
      rw [peaveylaw03_GapShaped.j0, if_neg (by decide)]
      have := shaped_go h (lines l) 0 K (by omega) (by omega)
      rw [best_zero] at this
      exact this
    exact this 80000 (by omega)
  · rw [if_neg (by rw [decide_eq_true_eq]; exact h), works_k]; rfl
end Go.Proofs.Ytmfonbonfhngnaa.Pure
