/- GapFolded: the row from its end, all numbers different: the lines are folded. -/
import Derived.Test.YtmfonbonfhngnaaGfold2
import Derived.Test.YtmfonbonfhngnaaGF
namespace Go.Proofs.Ytmfonbonfhngnaa.Pure
set_option linter.unusedVariables false
set_option linter.unusedSimpArgs false
open Go.RowKit Go.Proofs.Ytmfonbonfhngnaa.Gfold Go.Proofs.Ytmfonbonfhngnaa.PrA Go.Proofs.Ytmfonbonfhngnaa.PrR Go.Proofs.Ytmfonbonfhngnaa.PrL Go.Proofs.Ytmfonbonfhngnaa.Hand Go.Proofs.YtmfonbonfhngnaaW.PrintWords Go.Proofs.YtmfonbonfhngnaaW.PrintLast
set_option linter.unusedVariables false
set_option linter.unusedSimpArgs false

/-- how many numbers the first columns have -/
def capT (k : Nat) : List (List Int) → Nat
  | [] => 0
  | r :: T => min k r.length + capT k T
theorem capT_succ (k : Nat) : ∀ T, capT (k + 1) T = capT k T + T.countP fun r => decide (k + 1 ≤ r.length)
  | [] => rfl
  | r :: T => by
    rw [capT, capT, capT_succ k T, List.countP_cons]
    by_cases h : k + 1 ≤ r.length
    · rw [if_pos (by simpa using h)]; omega
    · rw [if_neg (by simpa using h)]; omega
theorem capT_zero : ∀ T, capT 0 T = 0
  | [] => rfl
  | r :: T => by rw [capT, capT_zero T, Nat.zero_min]
/-- a line from its end: its first numbers go into a pocket each -/
theorem can_rev_row {k : Nat} {v : List Int} {c : Nat} (n : Nat) : ∀ {r : List Int} {s : Nat → Int}, r.length = n → (∀ j (h : j < r.length), s j ≤ r[j]) → (∀ s' : Nat → Int, (∀ j (h : j < r.length), j < k → s' j = r[j]) → (∀ j, r.length ≤ j → s' j = s j) → (∀ j, k ≤ j → s' j = s j) → Hand.Can k s' v c) → Hand.Can k s (r.reverse ++ v) (min k r.length + c) := by
  induction n with
  | zero =>
    intro r s hn hs hc
    obtain rfl : r = [] := List.eq_nil_of_length_eq_zero hn
    simp only [List.reverse_nil, List.nil_append, List.length_nil, Nat.min_zero, Nat.zero_add]
    exact hc s (fun j h => absurd h (Nat.not_lt_zero _)) (fun j _ => rfl) (fun j _ => rfl)
  | succ n ih =>
    intro r s hn hs hc
    have hne : r ≠ [] := by intro e; rw [e] at hn; simp at hn
    obtain ⟨M, hM⟩ : ∃ M, M = r.dropLast := ⟨_, rfl⟩
    obtain ⟨a, ha⟩ : ∃ a, a = r.getLast hne := ⟨_, rfl⟩
    have hr : r = M ++ [a] := by rw [hM, ha, List.dropLast_concat_getLast hne]
    clear hM ha hne
    subst hr
    have hMl : M.length = n := by simpa using hn
    rw [List.reverse_append, List.reverse_singleton, List.singleton_append, List.cons_append, List.length_append, List.length_singleton]
    have hsM : ∀ j (h : j < M.length), s j ≤ M[j] := fun j h => by
      have := hs j (by simp; omega)
      rwa [List.getElem_append_left h] at this
    have hsa : s M.length ≤ a := by
      have := hs M.length (by simp)
      simpa using this
    by_cases hk : M.length < k
    · rw [show min k (M.length + 1) + c = (min k M.length + c) + 1 by omega]
      refine .take hk hsa (ih (r := M) (s := updS s M.length a) hMl (fun j h => by rw [updS_other _ _ (by omega)]; exact hsM j h) fun s' h1 h2 h3 => hc s' (fun j h hjk => ?_) (fun j hj => ?_) (fun j hj => ?_))
      · by_cases e : j = M.length
        · subst e
          rw [h2 M.length (Nat.le_refl _), updS_same]; simp
        · rw [List.getElem_append_left (by simp at h; omega)]
          exact h1 j (by simp at h; omega) hjk
      · simp at hj
        rw [h2 j (by omega), updS_other _ _ (by omega)]
      · rw [h3 j hj, updS_other _ _ (by omega)]
    · rw [show min k (M.length + 1) + c = min k M.length + c by omega]
      refine .skip (ih (r := M) (s := s) hMl hsM fun s' h1 h2 h3 => hc s' (fun j h hjk => ?_) (fun j hj => ?_) h3)
      · rw [List.getElem_append_left (by omega)]
        exact h1 j (by omega) hjk
      · simp at hj
        exact h2 j (by omega)
theorem over_get {a b : List Int} (h : Over a b) : ∀ j (hb : j < b.length), ∃ ha : j < a.length, a[j] < b[j] := by
  induction h with
  | nil r => intro j hb; simp at hb
  | cons h1 h2 ih =>
    intro j hb
    cases j with
    | zero => exact ⟨by simp, h1⟩
    | succ j =>
      obtain ⟨ha, hl⟩ := ih j (by simpa using hb)
      exact ⟨by simpa using ha, by simpa using hl⟩
/-- the columns -/
theorem can_cols {k : Nat} : ∀ (T : List (List Int)) (s : Nat → Int), T.Pairwise Over → (∀ r ∈ T, ∀ j (h : j < r.length), j < k → s j ≤ r[j]) → (∀ r ∈ T, ∀ j (h : j < r.length), k ≤ j → s j ≤ r[j]) → Hand.Can k s (wordT T).reverse (capT k T)
  | [], s, _, _, _ => .nil s
  | r :: T, s, hp, h1, h1' => by
    obtain ⟨h2, h3⟩ := List.pairwise_cons.1 hp
    rw [wordT, List.reverse_append, capT]
    refine can_rev_row r.length rfl (fun j h => ?_) fun s' g1 g2 g3 => can_cols T s' h3 (fun q hq j h hjk => ?_) (fun q hq j h hjk => ?_)
    · by_cases hjk : j < k
      · exact h1 r List.mem_cons_self j h hjk
      · exact h1' r List.mem_cons_self j h (by omega)
    · obtain ⟨ha, hl⟩ := over_get (h2 q hq) j h
      rw [g1 j ha hjk]; omega
    · rw [g3 j hjk]
      exact h1' q (List.mem_cons_of_mem _ hq) j h hjk
/-- no more than the columns, by the lines -/
def tagR : Nat → List (List Int) → List (Int × Nat)
  | _, [] => []
  | n, r :: T => (r.reverse.map fun a => (a, n)) ++ tagR (n + 1) T
theorem tagR_fst : ∀ (T : List (List Int)) (n : Nat), (tagR n T).map Prod.fst = (wordT T).reverse
  | [], _ => rfl
  | r :: T, n => by
    rw [tagR, List.map_append, tagR_fst T (n + 1), wordT, List.reverse_append, List.map_map]
    congr 1
    exact List.map_id _
theorem tagR_ge : ∀ (T : List (List Int)) (n : Nat), ∀ x ∈ tagR n T, n ≤ x.2 ∧ x.2 < n + T.length
  | [], _, x, h => by cases h
  | r :: T, n, x, h => by
    rcases List.mem_append.1 h with h | h
    · obtain ⟨a, _, rfl⟩ := List.mem_map.1 h
      simp
    · have := tagR_ge T (n + 1) x h
      simp only [List.length_cons]; omega
theorem tagR_pairwise : ∀ (T : List (List Int)) (n : Nat), (∀ r ∈ T, r.Pairwise (· < ·)) → (tagR n T).Pairwise (fun x y => x.2 = y.2 → y.1 < x.1)
  | [], _, _ => .nil
  | r :: T, n, h => by
    refine List.pairwise_append.2 ⟨?_, tagR_pairwise T (n + 1) fun q hq => h q (List.mem_cons_of_mem _ hq), fun x hx y hy e => ?_⟩
    · rw [List.pairwise_map, List.pairwise_reverse]
      refine (h r List.mem_cons_self).imp ?_
      intro a b hab _
      exact hab
    · obtain ⟨a, _, rfl⟩ := List.mem_map.1 hx
      have := tagR_ge T (n + 1) y hy
      simp only at e; omega
theorem cnt_tagR : ∀ (T : List (List Int)) (n j : Nat), j < T.length → cntT (tagR n T) (n + j) = (T.getD j []).length
  | [], _, j, h => absurd h (Nat.not_lt_zero _)
  | r :: T, n, j, h => by
    unfold cntT
    rw [tagR, List.countP_append, List.countP_map]
    cases j with
    | zero =>
      have h1 : (tagR (n + 1) T).countP (fun x => x.2 == n + 0) = 0 := by
        rw [List.countP_eq_zero]
        intro x hx
        have := tagR_ge T (n + 1) x hx
        simp; omega
      rw [h1, List.countP_eq_length.2]
      · simp
      · intro a _; simp
    | succ j =>
      have ih := cnt_tagR T (n + 1) j (by simpa using h)
      unfold cntT at ih
      rw [show n + (j + 1) = n + 1 + j by omega, ih, List.countP_eq_zero.2]
      · simp
      · intro a _; simp; omega
theorem sum_capT (k : Nat) : ∀ T : List (List Int), (sumF T.length fun j => min k (T.getD j []).length) = capT k T := by
  have key : ∀ (T : List (List Int)) (f : Nat → Nat), (sumF (T.length + 1) f) = f 0 + sumF T.length fun j => f (j + 1) := by
    intro T f
    induction T.length with
    | zero => simp [sumF]
    | succ n ih => rw [sumF, ih, sumF]; omega
  intro T
  induction T with
  | nil => rfl
  | cons r T ih =>
    rw [List.length_cons, key, capT, ← ih]
    rfl
theorem fold_best {w : List Int} (hd : w.Nodup) (k : Nat) : best w.reverse k = capT k (tabF w) := by
  obtain ⟨m, hm⟩ := low_bound w
  have hk := (tabF_kn w).back hd
  have hT := tabF_tab w
  have hg := greene k w.reverse (fun _ => m) (fun _ a ha => hm a (List.mem_reverse.1 ha))
  have hperm := (tabF_kn w).perm
  have hmem : ∀ {T : List (List Int)} {r : List Int} {a : Int}, r ∈ T → a ∈ r → a ∈ wordT T := by
    intro T
    induction T with
    | nil => intro r a hr; cases hr
    | cons q T ih =>
      intro r a hr ha
      rcases List.mem_cons.1 hr with rfl | hr
      · exact List.mem_append_right _ ha
      · exact List.mem_append_left _ (ih hr ha)
  have hlow : ∀ r ∈ tabF w, ∀ j (h : j < r.length), m ≤ r[j] := fun r hr j h => hm _ (hperm.mem_iff.2 (hmem hr (List.getElem_mem h)))
  have h1 := hg.2 _ ((hk.can k _ _).2 (can_cols (k := k) (tabF w) (fun _ => m) hT.over (fun r hr j h _ => hlow r hr j h) (fun r hr j h _ => hlow r hr j h)))
  have hnd : (wordT (tabF w)).Nodup := hperm.nodup_iff.1 hd
  have hrow : ∀ {T : List (List Int)}, (wordT T).Nodup → ∀ r ∈ T, r.Nodup := by
    intro T
    induction T with
    | nil => intro _ r hr; cases hr
    | cons q T ih =>
      intro hn r hr
      rw [wordT, List.nodup_append] at hn
      rcases List.mem_cons.1 hr with rfl | hr
      · exact hn.2.1
      · exact ih hn.1 r hr
  have hstrict : ∀ r ∈ tabF w, r.Pairwise (· < ·) := fun r hr => by
    have h1 := hT.up r hr
    have h2 := hrow hnd r hr
    exact (List.pairwise_and_iff.2 ⟨h1, h2⟩).imp fun h => by omega
  have h2 : best w.reverse k ≤ capT k (tabF w) := by
    have hc := (hk.can k _ _).1 hg.1
    rw [← tagR_fst (tabF w) 0] at hc
    have := weak (J := (tabF w).length) (tagR_pairwise (tabF w) 0 hstrict) (fun x hx => by have := tagR_ge (tabF w) 0 x hx; omega) hc
    refine Nat.le_trans this (Nat.le_trans (sumF_le fun j hj => ?_) (Nat.le_of_eq (sum_capT k (tabF w))))
    have := cnt_tagR (tabF w) 0 j hj
    rw [Nat.zero_add] at this
    rw [this]; exact Nat.le_refl _
  have h3 : capT k (tabF w) ≤ best w.reverse k := h1
  omega
/-- the k-th number of the one is how many of the other one are at least k -/
theorem folded {w : List Int} (hd : w.Nodup) (k : Nat) : (lens (tabF w.reverse)).getD k 0 = (lens (tabF w)).countP fun n => decide (k + 1 ≤ n) := by
  have h1 := best_succ w.reverse k
  rw [fold_best hd, fold_best hd, capT_succ] at h1
  have e : (lens (tabF w)).countP (fun n => decide (k + 1 ≤ n)) = (tabF w).countP (fun r => decide (k + 1 ≤ r.length)) := by
    unfold lens
    rw [List.countP_map]; rfl
  omega

/-! ### the loops -/
theorem back_go (l : List Int) (hl : l.length ≤ 1000) (d : Nat) : ∀ (K : Nat) (x : List Int), d ≤ l.length → d < K → x.length + d = l.length → peaveylaw03_back.l0 K l x ((d : Int) - 1) = some (x ++ (l.take d).reverse) := by
  induction d with
  | zero =>
    intro K x hd hK hx
    obtain ⟨K, rfl⟩ : ∃ q, K = q + 1 := ⟨K - 1, by omega⟩
    rw [peaveylaw03_back.l0, if_neg (by omega)]; simp
  | succ d ih =>
    intro K x hd hK hx
    obtain ⟨K, rfl⟩ : ∃ q, K = q + 1 := ⟨K - 1, by omega⟩
    rw [peaveylaw03_back.l0, show ((d + 1 : Nat) : Int) - 1 = (d : Int) by omega, if_pos (by omega), if_pos (by omega), if_pos (by omega), if_pos (by omega), IntWalk.wrap64_in _ ⟨by omega, by omega⟩, ih K _ (by omega) (by omega) (by simp; omega)]
    rw [List.take_succ_eq_append_getElem (by omega), List.reverse_append, rd_get l (by omega)]
    simp
theorem back_is (l : List Int) (hl : l.length ≤ 1000) (K : Nat) (hK : 1001 ≤ K) : peaveylaw03_back.f K l = some l.reverse := by
  unfold peaveylaw03_back.f
  rw [IntWalk.wrap64_in _ ⟨by omega, by omega⟩, back_go l hl l.length K [] (Nat.le_refl _) (by omega) (by simp), List.nil_append, List.take_length]
theorem drop_rd {l : List Int} {j : Nat} (h : j < l.length) : l.drop j = rd l (j : Nat) :: l.drop (j + 1) := by
  rw [List.drop_eq_getElem_cons h, rd_get l h]
theorem fold_l3 {x s t : List Int} (hs : s.length ≤ 30) (k : Int) (K : Nat) (d : Nat) : ∀ (j n : Nat), j + d = s.length → n + d ≤ 30 → ∃ N : Nat, N = n + (s.drop j).countP (fun a => decide (k ≤ a)) ∧ peaveylaw03_GapFolded.l3 (K + d + 1) x s t k n j = peaveylaw03_GapFolded.l3 (K + 1) x s t k N s.length := by
  induction d with
  | zero =>
    intro j n hj hn
    refine ⟨n, ?_, ?_⟩
    · rw [List.drop_eq_nil_of_le (by omega)]; rfl
    · rw [show s.length = j by omega]
  | succ d ih =>
    intro j n hj hn
    have hlt : j < s.length := by omega
    rw [drop_rd hlt, List.countP_cons]
    by_cases c : rd s (j : Nat) ≥ k
    · obtain ⟨N, h1, h2⟩ := ih (j + 1) (n + 1) (by omega) (by omega)
      refine ⟨N, ?_, ?_⟩
      · rw [h1, if_pos (by simpa using c)]; omega
      · rw [show K + (d + 1) + 1 = (K + d + 1) + 1 by omega, peaveylaw03_GapFolded.l3, if_pos (by omega), if_pos (by omega), if_pos c, wrap_succ (i := n) (by omega), wrap_succ (i := j) (by omega)]
        exact h2
    · obtain ⟨N, h1, h2⟩ := ih (j + 1) n (by omega) (by omega)
      refine ⟨N, ?_, ?_⟩
      · rw [h1, if_neg (by simpa using c)]; omega
      · rw [show K + (d + 1) + 1 = (K + d + 1) + 1 by omega, peaveylaw03_GapFolded.l3, if_pos (by omega), if_pos (by omega), if_neg c, wrap_succ (i := j) (by omega)]
        exact h2
theorem count_shape (w : List Int) (k : Nat) : (shapeI w).countP (fun a => decide (((k + 1 : Nat) : Int) ≤ a)) = (lens (tabF w)).countP fun n => decide (k + 1 ≤ n) := by
  unfold shapeI
  rw [List.countP_map]
  refine List.countP_congr fun n _ => ?_
  simp only [Function.comp, decide_eq_true_eq]
  omega
theorem fold_l2 {w : List Int} (hd : w.Nodup) (hl : w.length ≤ 30) (d : Nat) : ∀ (k K : Nat), k + d = w.length → d * 40 + 2 < K → peaveylaw03_GapFolded.l2 K w (shapeI w) (shapeI w.reverse) (k + 1 : Nat) = some true := by
  have h1 := lines_le_len w
  have h2 := lines_le_len w.reverse
  rw [List.length_reverse] at h2
  have hs := shapeI_len w
  have ht := shapeI_len w.reverse
  induction d with
  | zero =>
    intro k K hk hK
    obtain ⟨K, rfl⟩ : ∃ q, K = q + 1 := ⟨K - 1, by omega⟩
    rw [peaveylaw03_GapFolded.l2, if_neg (by omega), works_k]; rfl
  | succ d ih =>
    intro k K hk hK
    obtain ⟨K, rfl⟩ : ∃ q, K = q + (shapeI w).length + 1 + 1 := ⟨K - (shapeI w).length - 2, by omega⟩
    rw [peaveylaw03_GapFolded.l2, if_pos (by omega)]
    obtain ⟨N, n1, n2⟩ := fold_l3 (x := w) (s := shapeI w) (t := shapeI w.reverse) (by omega) ((k + 1 : Nat) : Int) K (shapeI w).length 0 0 (by omega) (by omega)
    rw [List.drop_zero, Nat.zero_add, count_shape, ← folded hd k] at n1
    rw [show ((0 : Nat) : Int) = 0 from rfl] at n2
    rw [n2]
    have hg := shapeI_get w.reverse k
    have hstep := ih (k + 1) K (by omega) (by omega)
    rw [peaveylaw03_GapFolded.l3, if_neg (by omega), show wrap64 (((k + 1 : Nat) : Int) - 1) = (k : Int) by rw [IntWalk.wrap64_in _ ⟨by omega, by omega⟩]; omega, wrap_succ (i := k + 1) (by omega)]
    by_cases c : k + 1 ≤ (shapeI w.reverse).length
    · rw [if_pos (by omega), if_pos (by omega), if_pos (by omega), if_pos (by rw [hg, n1]), if_neg (by omega)]
      exact hstep
    · rw [if_neg (by omega), if_pos (by omega)]
      have : N = 0 := by
        rw [n1]; exact lens_none w.reverse (by unfold lines at ht; omega)
      rw [this, if_pos (show ((0 : Nat) : Int) = 0 from rfl)]
      exact hstep
theorem fold_end {l x : List Int} (hd : x.Nodup) (hx : rowE x = 0) (K : Nat) (hK : 72000 ≤ K) : peaveylaw03_GapFolded.l0 (K + 1) l x l.length = some true := by
  obtain ⟨hl, hp⟩ := row_zero hx
  have hr : rowE x.reverse = 0 := row_of (by rw [List.length_reverse]; exact hl) fun a ha => hp a (List.mem_reverse.1 ha)
  have h1 := lines_le_len x
  have h2 := lines_le_len x.reverse
  rw [List.length_reverse] at h2
  have hs := shapeI_len x
  have ht := shapeI_len x.reverse
  rw [peaveylaw03_GapFolded.l0, if_neg (by omega), shape_is hx K (by omega), Option.bind_some, back_is x (by omega) K (by omega), Option.bind_some, shape_is hr K (by omega), Option.bind_some]
  simp only [if_true]
  rw [if_neg (by omega), show decide (((shapeI x.reverse).length : Int) > (x.length : Int)) = false from decide_eq_false (by omega)]
  obtain ⟨K, rfl⟩ : ∃ q, K = q + 1 := ⟨K - 1, by omega⟩
  rw [peaveylaw03_GapFolded.j2, if_neg (by decide)]
  exact fold_l2 hd hl x.length 0 K (by omega) (by omega)
theorem fold_l1 {l x : List Int} (hl : l.length ≤ 30) {i : Nat} (hi : i < l.length) (hx : x.length ≤ 30) (K : Nat) (e : Nat) : ∀ (k : Nat) (fl : Bool), k + e = i → ∃ fl', (fl' = true ↔ fl = true ∧ ∀ j, k ≤ j → j < i → rd l (j : Nat) ≠ rd l (i : Nat)) ∧
    peaveylaw03_GapFolded.l1 (K + e + 1) l x i fl k = peaveylaw03_GapFolded.l0 K l (if fl' = true then x ++ [rd l (i : Nat)] else x) (i + 1 : Nat) := by
  induction e with
  | zero =>
    intro k fl hk
    refine ⟨fl, ⟨fun h => ⟨h, fun j h1 h2 => by omega⟩, fun h => h.1⟩, ?_⟩
    rw [show K + 0 + 1 = K + 1 from rfl, peaveylaw03_GapFolded.l1, if_neg (by omega)]
    by_cases hf : fl = true
    · rw [if_pos hf, if_pos hf, if_pos (by omega), if_pos (by omega), if_pos (by omega), wrap_succ (by omega)]
    · rw [if_neg hf, if_neg hf, wrap_succ (by omega)]
  | succ e ih =>
    intro k fl hk
    rw [show K + (e + 1) + 1 = (K + e + 1) + 1 by omega, peaveylaw03_GapFolded.l1, if_pos (by omega)]
    by_cases hf : fl = true
    · rw [if_pos hf, if_pos (by omega), if_pos (by omega), if_pos (by omega), if_pos (by omega), wrap_succ (i := k) (by omega)]
      obtain ⟨fl', h1, h2⟩ := ih (k + 1) (rd l (k : Nat) != rd l (i : Nat)) (by omega)
      refine ⟨fl', h1.trans ⟨fun ⟨g1, g2⟩ => ⟨hf, fun j j1 j2 => ?_⟩, fun ⟨g1, g2⟩ => ⟨bne_iff_ne.2 (g2 k (Nat.le_refl _) (by omega)), fun j j1 j2 => g2 j (by omega) j2⟩⟩, h2⟩
      by_cases ej : j = k
      · subst ej; exact bne_iff_ne.1 g1
      · exact g2 j (by omega) j2
    · rw [if_neg hf, wrap_succ (i := k) (by omega)]
      obtain ⟨fl', h1, h2⟩ := ih (k + 1) false (by omega)
      refine ⟨fl', h1.trans ⟨fun ⟨g1, _⟩ => absurd g1 (by decide), fun ⟨g1, _⟩ => absurd g1 hf⟩, h2⟩
theorem fold_go {l : List Int} (h : rowE l = 0) (d : Nat) : ∀ (i K : Nat) (x : List Int), i + d = l.length → 72001 + d * 40 ≤ K → x.length ≤ i → x.Nodup → (∀ a ∈ x, a ∈ l) → (∀ j, j < i → rd l (j : Nat) ∈ x) → (∀ a ∈ x, ∃ j, j < i ∧ rd l (j : Nat) = a) → peaveylaw03_GapFolded.l0 K l x i = some true := by
  obtain ⟨hl, hp⟩ := row_zero h
  induction d with
  | zero =>
    intro i K x hi hK hxl hd hm h1 h2
    obtain ⟨K, rfl⟩ : ∃ q, K = q + 1 := ⟨K - 1, by omega⟩
    obtain rfl : i = l.length := by omega
    exact fold_end hd (row_of (by omega) fun a ha => hp a (hm a ha)) K (by omega)
  | succ d ih =>
    intro i K x hi hK hxl hd hm h1 h2
    have hlt : i < l.length := by omega
    obtain ⟨K, rfl⟩ : ∃ q, K = q + i + 1 + 1 := ⟨K - i - 2, by omega⟩
    rw [peaveylaw03_GapFolded.l0, if_pos (by omega)]
    obtain ⟨fl, f1, f2⟩ := fold_l1 (x := x) hl hlt (by omega) K i 0 true (by omega)
    rw [show ((0 : Nat) : Int) = 0 from rfl] at f2
    rw [f2]
    have hmem : rd l (i : Nat) ∈ l := by rw [rd_get l hlt]; exact List.getElem_mem hlt
    cases fl
    · rw [if_neg (by decide)]
      have hin : rd l (i : Nat) ∈ x := by
        apply Classical.byContradiction
        intro hn
        have := f1.2 ⟨rfl, fun j _ j2 e => hn (by rw [← e]; exact h1 j j2)⟩
        exact absurd this (by decide)
      refine ih (i + 1) K x (by omega) (by omega) (by omega) hd hm (fun j hj => ?_) (fun a ha => ?_)
      · by_cases e : j = i
        · subst e; exact hin
        · exact h1 j (by omega)
      · obtain ⟨j, j1, j2⟩ := h2 a ha
        exact ⟨j, by omega, j2⟩
    · rw [if_pos rfl]
      have hno := (f1.1 rfl).2
      refine ih (i + 1) K _ (by omega) (by omega) (by simp; omega) ?_ (fun a ha => ?_) (fun j hj => ?_) (fun a ha => ?_)
      · rw [List.nodup_append]
        refine ⟨hd, by simp, fun a ha b hb e => ?_⟩
        obtain rfl : b = rd l (i : Nat) := by simpa using hb
        obtain ⟨j, j1, j2⟩ := h2 a ha
        exact hno j (Nat.zero_le _) j1 (by rw [j2, e])
      · rcases List.mem_append.1 ha with ha | ha
        · exact hm a ha
        · obtain rfl : a = rd l (i : Nat) := by simpa using ha
          exact hmem
      · by_cases e : j = i
        · subst e; exact List.mem_append_right _ (by simp)
        · exact List.mem_append_left _ (h1 j (by omega))
      · rcases List.mem_append.1 ha with ha | ha
        · obtain ⟨j, j1, j2⟩ := h2 a ha
          exact ⟨j, by omega, j2⟩
        · obtain rfl : a = rd l (i : Nat) := by simpa using ha
          exact ⟨i, by omega, rfl⟩
theorem GapFolded : peaveylaw03_GapFolded.Pure := by
  intro l _ _ _
  refine ⟨80000, ?_⟩
  unfold peaveylaw03_GapFolded.f
  rw [fine_is l 80000 (by omega), Option.bind_some]
  by_cases h : rowE l = 0
  · obtain ⟨hl, _⟩ := row_zero h
    rw [if_pos (decide_eq_true h)]
    exact fold_go h l.length 0 80000 [] (by omega) (by omega) (by simp) (by simp) (fun a ha => by cases ha) (fun j hj => absurd hj (Nat.not_lt_zero _)) (fun a ha => by cases ha)
  · rw [if_neg (by rw [decide_eq_true_eq]; exact h), works_k]; rfl
end Go.Proofs.Ytmfonbonfhngnaa.Pure
