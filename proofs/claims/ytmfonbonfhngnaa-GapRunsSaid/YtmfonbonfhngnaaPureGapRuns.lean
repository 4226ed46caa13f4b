/- GapRuns: which logs are a run, and the longest run, by the program and by the reference. -/
import Derived.Test.YtmfonbonfhngnaaGruns3
import Derived.Test.YtmfonbonfhngnaaGG
namespace Go.Proofs.Ytmfonbonfhngnaa.Pure
set_option linter.unusedVariables false
set_option linter.unusedSimpArgs false
open Go.RowKit Go.Proofs.Ytmfonbonfhngnaa.Gruns Go.Proofs.Ytmfonbonfhngnaa.PrA Go.Proofs.Ytmfonbonfhngnaa.PrR Go.Proofs.Ytmfonbonfhngnaa.PrL Go.Proofs.Ytmfonbonfhngnaa.Hand Go.Proofs.YtmfonbonfhngnaaW.PrintWords Go.Proofs.YtmfonbonfhngnaaW.PrintLast
set_option linter.unusedVariables false
set_option linter.unusedSimpArgs false

theorem runN_one {l : List Int} {i : Nat} (hi : i < l.length) : RunN l [i] := ⟨by simp, fun a ha => by
  obtain rfl : a = i := by simpa using ha
  exact hi⟩
theorem runN_len {l : List Int} {x : List Nat} (h : RunN l x) : x.length ≤ l.length := nodup_len l.length x (h.1.imp fun h e => by omega) h.2
/-- a number is the length of the longest run from a log on -/
def EndR (l : List Int) (i : Nat) (v : Int) : Prop := (∃ y, RunN l (i :: y) ∧ ((i :: y).length : Int) = v) ∧ ∀ y, RunN l (i :: y) → ((i :: y).length : Int) ≤ v
def PartR (l : List Int) (i k : Nat) (v : Int) : Prop := (∃ y, RunN l (i :: y) ∧ ((i :: y).length : Int) = v) ∧ 1 ≤ v ∧ ∀ q z, q < k → RunN l (i :: q :: z) → ((i :: q :: z).length : Int) ≤ v
theorem run_in {l : List Int} (hl : l.length ≤ 30) (b : Int) {i : Nat} (hi : i < l.length) (K : Nat) (d : Nat) : ∀ (k : Nat) (long : List Int), k + d = l.length → i < k → long.length = l.length → (∀ j, i < j → j < l.length → EndR l j (rd long (j : Nat))) → PartR l i k (rd long (i : Nat)) →
    ∃ long', peaveyref03_Run.l1 (K + d + 1) l long b i k = peaveyref03_Run.l0 K l long' (mx b (rd long' (i : Nat))) (wrap64 ((i : Int) - 1)) ∧ long'.length = l.length ∧ ∀ j, i ≤ j → j < l.length → EndR l j (rd long' (j : Nat)) := by
  induction d with
  | zero =>
    intro k long hk hik hlen hj hp
    refine ⟨long, ?_, hlen, fun j hj' hjl => ?_⟩
    · rw [show K + 0 + 1 = K + 1 from rfl, peaveyref03_Run.l1, if_neg (by omega), if_pos (by omega), if_pos (by omega)]
    · by_cases e : j = i
      · subst e
        refine ⟨hp.1, fun y hy => ?_⟩
        cases y with
        | nil => exact hp.2.1
        | cons q z => exact hp.2.2 q z (by have := cand_mem.1 (runN_cons hy).1; omega) hy
      · exact hj j (by omega) hjl
  | succ d ih =>
    intro k long hk hik hlen hj hp
    rw [show K + (d + 1) + 1 = (K + d + 1) + 1 by omega, peaveyref03_Run.l1, if_pos (by omega), if_pos (by omega), if_pos (by omega), if_pos (by omega)]
    obtain ⟨⟨yk, yk1, yk2⟩, yk3⟩ := hj k hik (by omega)
    obtain ⟨⟨yi, yi1, yi2⟩, yi3, yi4⟩ := hp
    have b1 := runN_len yk1
    have b2 := runN_len yi1
    by_cases hr : rd l (k : Nat) < rd l (i : Nat)
    · rw [if_pos hr, if_pos (by omega), if_pos (by omega), Int.toNat_natCast, wrap_succ (i := k) (by omega), IntWalk.wrap64_in (rd long (k : Nat) + 1) ⟨by omega, by omega⟩]
      refine ih (k + 1) _ (by omega) (by omega) (by rw [List.length_set]; exact hlen) (fun j hj' hjl => by rw [rd_set_other long (by omega)]; exact hj j hj' hjl) ?_
      rw [rd_set_same long (by omega)]
      refine ⟨?_, by unfold mx; split <;> omega, fun q z hq hu => ?_⟩
      · unfold mx
        split
        · exact ⟨k :: yk, Hand.runN_add hi (cand_mem.2 ⟨by omega, hik, hr⟩) yk1, by rw [← yk2, List.length_cons]; omega⟩
        · exact ⟨yi, yi1, yi2⟩
      · obtain ⟨u1, u2⟩ := runN_cons hu
        by_cases e : q = k
        · subst e
          have := yk3 z u2
          rw [List.length_cons] at this
          rw [List.length_cons, List.length_cons]
          unfold mx; split <;> omega
        · have := yi4 q z (by omega) hu
          unfold mx; split <;> omega
    · rw [if_neg hr, wrap_succ (i := k) (by omega)]
      refine ih (k + 1) long (by omega) (by omega) hlen hj ⟨⟨yi, yi1, yi2⟩, yi3, fun q z hq hu => ?_⟩
      obtain ⟨u1, u2⟩ := runN_cons hu
      by_cases e : q = k
      · subst e; exact absurd (cand_mem.1 u1).2.2 hr
      · exact yi4 q z (by omega) hu
/-! ### the program's runs, log by log -/
def longB (b : List (List Int)) (i : Nat) : Nat := (b.getD i []).length
theorem best_long {l : List Int} {b : List (List Int)} (h : BestI l 0 b) {i : Nat} (hi : i < l.length) {v : Int} (hv : EndR l i v) : v = longB b i := by
  obtain ⟨y, y1, y2, y3⟩ := h.best i (Nat.zero_le _) hi
  obtain ⟨⟨z, z1, z2⟩, z3⟩ := hv
  have g1 := y3 z z1
  have g2 := z3 y y2
  unfold longB
  rw [y1, natsI_len]
  simp only [List.length_cons] at *
  omega
theorem natsI_inj {a b : List Nat} (h : natsI a = natsI b) : a = b := by
  unfold natsI at h
  exact List.map_inj_right (f := fun n : Nat => (n : Int)) (fun x y e => by omega) |>.1 h
theorem next_log {l : List Int} {b : List (List Int)} (h : BestI l 0 b) {j : Nat} (hj : j < l.length) {y : List Nat} (hy : b.getD j [] = natsI (j :: y)) :
    (y = [] ∧ candL l j = []) ∨ ∃ q y', y = q :: y' ∧ q ∈ candL l j ∧ b.getD q [] = natsI (q :: y') ∧ (∀ i ∈ candL l j, longB b i ≤ longB b q) ∧ ∀ i ∈ candL l j, i < q → longB b i < longB b q := by
  have hs := h.step j (Nat.zero_le _) hj
  rw [hy] at hs
  have hs' : natsI y = firstL ((candL l j).map fun q => b.getD q []) := by
    unfold natsI at hs
    rw [List.map_cons] at hs
    exact (List.cons.inj hs).2
  by_cases hc : candL l j = []
  · rw [hc] at hs'
    left
    refine ⟨?_, hc⟩
    cases y with
    | nil => rfl
    | cons a y => simp [natsI, firstL] at hs'
  · right
    obtain ⟨p, hp, e1, e2, e3⟩ := firstL_get (L := (candL l j).map fun q => b.getD q []) (by simpa using hc)
    rw [List.length_map] at hp
    simp only [List.getElem_map] at e1 e2 e3
    have hq := List.getElem_mem hp
    have hql := (cand_mem.1 hq).1
    obtain ⟨y', w1, w2, w3⟩ := h.best (candL l j)[p] (Nat.zero_le _) hql
    refine ⟨(candL l j)[p], y', ?_, hq, w1, fun i hi => ?_, fun i hi hlt => ?_⟩
    · rw [e1, w1] at hs'
      exact natsI_inj hs'
    · obtain ⟨p', hp', rfl⟩ := List.getElem_of_mem hi
      exact e2 p' (by rw [List.length_map]; exact hp')
    · obtain ⟨p', hp', rfl⟩ := List.getElem_of_mem hi
      refine e3 p' (by rw [List.length_map]; exact hp') ?_
      -- logs stand in their order
      have hpw : (candL l j).Pairwise (· < ·) := List.Pairwise.filter _ (range_pairwise _ fun a b hab _ => hab)
      rw [List.pairwise_iff_getElem] at hpw
      apply Classical.byContradiction
      intro hn
      by_cases e : p = p'
      · subst e; omega
      · have := hpw p p' hp hp' (by omega)
        omega
theorem natsI_snoc (y : List Nat) (a : Nat) : natsI (y ++ [a]) = natsI y ++ [(a : Int)] := by simp [natsI]
/-- the run so far, and what is left of it -/
theorem ref_tail {l long : List Int} {b : List (List Int)} (hl : l.length ≤ 30) (hB : BestI l 0 b) (hlen : long.length = l.length) (hlong : ∀ i, i < l.length → rd long (i : Nat) = longB b i) (best : Int) (d : Nat) : ∀ (i K : Nat) (o : List Nat) (j : Nat) (y : List Nat), i + d = l.length → d < K → j < i → o.length ≤ i → b.getD j [] = natsI (j :: y) → (longB b j : Int) + o.length = best →
    (∀ i', i' ∈ candL l j → i' < i → longB b i' + 1 < longB b j) → peaveyref03_Run.l2 K l long best (natsI (o ++ [j])) i = some (natsI (o ++ j :: y), 0) := by
  induction d with
  | zero =>
    intro i K o j y hi hK hji ho hy hbest hno
    obtain ⟨K, rfl⟩ : ∃ q, K = q + 1 := ⟨K - 1, by omega⟩
    rw [peaveyref03_Run.l2, if_neg (by omega)]
    have : y = [] := by
      rcases next_log hB (show j < l.length by omega) hy with h | ⟨q, y', rfl, hq, hbq, _⟩
      · exact h.1
      · have := hno q hq (by have := cand_mem.1 hq; omega)
        unfold longB at this
        rw [hy, hbq, natsI_len, natsI_len] at this
        simp at this
    rw [this]
  | succ d ih =>
    intro i K o j y hi hK hji ho hy hbest hno
    obtain ⟨K, rfl⟩ : ∃ q, K = q + 1 := ⟨K - 1, by omega⟩
    have hil : i < l.length := by omega
    have hjl : j < l.length := by omega
    have holen : (natsI (o ++ [j])).length = o.length + 1 := by rw [natsI_len]; simp
    have hLj : longB b j ≤ l.length ∧ 1 ≤ longB b j := by
      obtain ⟨z, z1, z2, z3⟩ := hB.best j (Nat.zero_le _) hjl
      have := runN_len z2
      unfold longB
      rw [z1, natsI_len]
      exact ⟨this, by simp⟩
    have hlast : rd (natsI (o ++ [j])) ((o.length : Nat) : Int) = j := by
      rw [natsI_snoc]
      have := rd_snoc (natsI o) (j : Int)
      rwa [natsI_len] at this
    have hw1 : wrap64 (best - ((natsI (o ++ [j])).length : Int)) = (longB b j : Int) - 1 := by
      rw [holen, IntWalk.wrap64_in _ ⟨by omega, by omega⟩]; omega
    have hw2 : wrap64 (((natsI (o ++ [j])).length : Int) - 1) = (o.length : Nat) := by
      rw [holen, IntWalk.wrap64_in _ ⟨by omega, by omega⟩]; omega
    rw [peaveyref03_Run.l2, if_pos (by clear hw1 hw2; omega), if_pos (by clear hw1 hw2; omega), if_pos (by clear hw1 hw2; omega), hlong i hil, hw1, hw2, hlast, wrap_succ (by clear hw1 hw2; omega)]
    clear hw1 hw2
    have skip : ¬ (i ∈ candL l j ∧ longB b i + 1 = longB b j) → peaveyref03_Run.l2 K l long best (natsI (o ++ [j])) (i + 1 : Nat) = some (natsI (o ++ j :: y), 0) := by
      intro hn
      refine ih (i + 1) K o j y (by omega) (by omega) (by omega) (by omega) hy hbest fun i' hc hlt => ?_
      by_cases e : i' = i
      · subst e
        rcases next_log hB hjl hy with h | ⟨q, y', rfl, hq, hbq, hmax, _⟩
        · rw [h.2] at hc; cases hc
        · have h1 := hmax i' hc
          have h2 : longB b q + 1 = longB b j := by
            unfold longB; rw [hy, hbq, natsI_len, natsI_len]; simp
          have h3 : longB b i' + 1 ≠ longB b j := fun e => hn ⟨hc, e⟩
          omega
      · exact hno i' hc (by omega)
    by_cases c1 : (longB b i : Int) = (longB b j : Int) - 1
    · rw [if_pos c1, if_neg (by omega), if_pos (by omega), if_pos (by omega), if_pos (by omega), if_pos (by omega)]
      by_cases c2 : rd l (i : Nat) < rd l (j : Nat)
      · rw [if_pos c2, if_pos (by omega)]
        have hic : i ∈ candL l j := cand_mem.2 ⟨hil, hji, c2⟩
        rcases next_log hB hjl hy with h | ⟨q, y', rfl, hq, hbq, hmax, hfirst⟩
        · rw [h.2] at hic; cases hic
        · have h2 : longB b q + 1 = longB b j := by
            unfold longB; rw [hy, hbq, natsI_len, natsI_len]; simp
          have : i = q := by
            by_cases g1 : i < q
            · have := hfirst i hic g1; omega
            · by_cases g2 : q < i
              · have := hno q hq g2; omega
              · omega
          subst this
          have := ih (i + 1) K (o ++ [j]) i y' (by omega) (by omega) (by omega) (by simp; omega) hbq (by simp; omega) (fun i' hc hlt => by
            have := cand_mem.1 hc; omega)
          rw [natsI_snoc (o ++ [j]) i] at this
          rw [this]
          congr 2
          rw [List.append_assoc]
          first | done | rfl
      · rw [if_neg c2]
        exact skip fun ⟨h1, _⟩ => c2 (cand_mem.1 h1).2.2
    · rw [if_neg c1]
      exact skip fun ⟨_, h2⟩ => c1 (by omega)
theorem ref_head {l long : List Int} {b : List (List Int)} (hl : l.length ≤ 30) (hB : BestI l 0 b) (hlen : long.length = l.length) (hlong : ∀ i, i < l.length → rd long (i : Nat) = longB b i) {j : Nat} (hj : j < l.length) {y : List Nat} (hy : b.getD j [] = natsI (j :: y)) (hfirst : ∀ i, i < j → longB b i < longB b j) (d : Nat) : ∀ (i K : Nat), i + d = l.length → d < K → i ≤ j → peaveyref03_Run.l2 K l long (longB b j) [] i = some (natsI (j :: y), 0) := by
  have hLj : longB b j ≤ l.length := by
    obtain ⟨z, z1, z2, z3⟩ := hB.best j (Nat.zero_le _) hj
    have := runN_len z2
    unfold longB
    rw [z1, natsI_len]
    exact this
  induction d with
  | zero => intro i K hi hK hij; omega
  | succ d ih =>
    intro i K hi hK hij
    obtain ⟨K, rfl⟩ : ∃ q, K = q + 1 := ⟨K - 1, by omega⟩
    have hw1 : wrap64 ((longB b j : Int) - (([] : List Int).length : Int)) = longB b j := by
      rw [List.length_nil, IntWalk.wrap64_in _ ⟨by omega, by omega⟩]; omega
    rw [peaveyref03_Run.l2, if_pos (by clear hw1; omega), if_pos (by clear hw1; omega), if_pos (by clear hw1; omega), hlong i (by clear hw1; omega), hw1, wrap_succ (by clear hw1; omega)]
    clear hw1
    by_cases e : i = j
    · subst e
      rw [if_pos rfl, if_pos (by simp), if_pos (by simp)]
      have := ref_tail hl hB hlen hlong (longB b i) d (i + 1) K [] i y (by omega) (by omega) (by omega) (by simp) hy (by simp) (fun i' hc hlt => by have := cand_mem.1 hc; omega)
      exact this
    · have := hfirst i (by omega)
      rw [if_neg (by omega)]
      exact ih (i + 1) K (by omega) (by omega) (by omega)
theorem ref_go {l : List Int} {b : List (List Int)} (hl : l.length ≤ 30) (hB : BestI l 0 b) {j : Nat} (hj : j < l.length) {y : List Nat} (hy : b.getD j [] = natsI (j :: y)) (hmax : ∀ i, i < l.length → longB b i ≤ longB b j) (hfirst : ∀ i, i < j → longB b i < longB b j) (d : Nat) :
    ∀ (K : Nat) (long : List Int) (best : Int), d ≤ l.length → 100 + d * 40 < K → long.length = l.length → (∀ i, d ≤ i → i < l.length → EndR l i (rd long (i : Nat))) → (∀ i, d ≤ i → i < l.length → (longB b i : Int) ≤ best) → (best = 0 ∧ d = l.length ∨ ∃ i, d ≤ i ∧ i < l.length ∧ best = longB b i) → peaveyref03_Run.l0 K l long best ((d : Int) - 1) = some (natsI (j :: y), 0) := by
  induction d with
  | zero =>
    intro K long best hd hK hlen h1 h2 h3
    obtain ⟨K, rfl⟩ : ∃ q, K = q + 1 := ⟨K - 1, by omega⟩
    rw [peaveyref03_Run.l0, if_neg (by omega)]
    have hlong : ∀ i, i < l.length → rd long (i : Nat) = longB b i := fun i hi => best_long hB hi (h1 i (Nat.zero_le _) hi)
    have hbest : best = longB b j := by
      have g1 := h2 j (Nat.zero_le _) hj
      rcases h3 with ⟨_, h3⟩ | ⟨i, _, i2, i3⟩
      · omega
      · have := hmax i i2; omega
    rw [hbest]
    exact ref_head hl hB hlen hlong hj hy hfirst l.length 0 K (by omega) (by omega) (Nat.zero_le _)
  | succ d ih =>
    intro K long best hd hK hlen h1 h2 h3
    have hdl : d < l.length := by omega
    obtain ⟨K, rfl⟩ : ∃ q, K = q + (l.length - (d + 1)) + 1 + 1 := ⟨K - (l.length - (d + 1)) - 2, by omega⟩
    rw [peaveyref03_Run.l0, show ((d + 1 : Nat) : Int) - 1 = (d : Int) by omega, if_pos (by omega), if_pos (by omega), if_pos (by omega), Int.toNat_natCast, wrap_succ (by omega)]
    obtain ⟨long', e1, e2, e3⟩ := run_in hl best hdl K (l.length - (d + 1)) (d + 1) (long.set d 1) (by omega) (by omega) (by rw [List.length_set]; exact hlen) (fun j hj hjl => by rw [rd_set_other long (by omega)]; exact h1 j (by omega) hjl) (by
      rw [rd_set_same long (by omega)]
      refine ⟨⟨[], runN_one hdl, rfl⟩, Int.le_refl _, fun q z hq hu => ?_⟩
      have := cand_mem.1 (runN_cons hu).1
      omega)
    have hld := best_long hB hdl (e3 d (Nat.le_refl _) hdl)
    rw [e1, hld, IntWalk.wrap64_in _ ⟨by omega, by omega⟩]
    refine ih K long' _ (by omega) (by omega) e2 e3 (fun i hi hil => ?_) ?_
    · by_cases e : i = d
      · subst e; unfold mx; split <;> omega
      · have := h2 i (by omega) hil
        unfold mx; split <;> omega
    · right
      unfold mx
      split
      · exact ⟨d, Nat.le_refl _, hdl, rfl⟩
      · rename_i hc
        rcases h3 with ⟨h3, h4⟩ | ⟨i, i1, i2, i3⟩
        · have : 1 ≤ longB b d := by
            obtain ⟨z, z1, z2, z3⟩ := hB.best d (Nat.zero_le _) hdl
            unfold longB
            rw [z1, natsI_len]; simp
          omega
        · exact ⟨i, by omega, i2, i3⟩
theorem refRunV (l : List Int) (K : Nat) (hK : 2000 < K) : peaveyref03_Run.f K l = some (runV l) := by
  unfold peaveyref03_Run.f runV
  rw [refRow_is l K (by omega), Option.bind_some]
  by_cases h : rowE l = 0
  · obtain ⟨hl, _⟩ := row_zero h
    rw [if_pos h, if_neg (show ¬ rowE l ≠ 0 by omega), if_pos (by omega), Int.toNat_natCast, if_pos (by omega), IntWalk.wrap64_in _ ⟨by omega, by omega⟩]
    have hB := best_all_is l
    obtain ⟨b, hb⟩ : ∃ b, b = bestN l l.length (List.replicate l.length []) := ⟨_, rfl⟩
    rw [← hb] at hB ⊢
    by_cases h0 : l.length = 0
    · have hbn : b = [] := List.eq_nil_of_length_eq_zero (by rw [hB.len, h0])
      obtain rfl : l = [] := List.eq_nil_of_length_eq_zero h0
      obtain ⟨K, rfl⟩ : ∃ q, K = q + 2 := ⟨K - 2, by omega⟩
      rw [hbn, show K + 2 = (K + 1) + 1 from rfl, peaveyref03_Run.l0, if_neg (by simp), peaveyref03_Run.l2, if_neg (by simp)]; rfl
    · obtain ⟨j, hj, e1, e2, e3⟩ := firstL_get (L := b) (by intro e; rw [e] at hB; exact h0 hB.len.symm)
      have hjl : j < l.length := by rw [← hB.len]; exact hj
      obtain ⟨y, y1, y2, y3⟩ := hB.best j (Nat.zero_le _) hjl
      have hg : ∀ i (hi : i < b.length), b.getD i [] = b[i] := fun i hi => by
        rw [List.getD_eq_getElem?_getD, List.getElem?_eq_getElem hi]; rfl
      have := ref_go hl hB hjl y1 (fun i hi => by
        have hib : i < b.length := by rw [hB.len]; exact hi
        unfold longB
        rw [hg i hib, hg j hj]; exact e2 i hib) (fun i hi => by
        have hib : i < b.length := by omega
        unfold longB
        rw [hg i hib, hg j hj]; exact e3 i hib hi) l.length K (List.replicate l.length 0) 0 (Nat.le_refl _) (by omega) (by simp) (fun i hi hil => by omega) (fun i hi hil => by omega) (.inl ⟨rfl, rfl⟩)
      rw [this, e1, ← hg j hj, y1]
  · rw [if_neg h, if_pos h, Option.bind_some]
theorem GapRuns : peaveylaw03_GapRuns.Pure := by
  intro l x _ _ _ _ _ _
  refine ⟨5001, ?_⟩
  have triv : peaveylaw03_GapRuns.j0 5001 l x true = some true := by
    rw [peaveylaw03_GapRuns.j0, if_pos rfl, works_k]; rfl
  have key : x.length ≤ 40 → peaveylaw03_GapRuns.j0 5001 l x false = some true := by
    intro hx
    have hrl : (runV l).1.length ≤ 1000 := by
      by_cases h : rowE l = 0
      · obtain ⟨hl, _⟩ := row_zero h
        obtain ⟨y, y1, y2, y3⟩ := run_is h
        have := lines_le_len l
        rw [y1, natsI_len, y3]; omega
      · unfold runV; rw [if_pos h]; exact Nat.zero_le _
    rw [peaveylaw03_GapRuns.j0, if_neg (by decide), gap_Run.f, refRunV l 5000 (by omega), gapRun_is (by omega) 5000 (by omega), refRun_is (by omega) 5000 (by omega), Option.bind_some, Option.bind_some, Option.bind_some, Option.bind_some, if_pos rfl, ints_eq _ _ hrl 5000 (by omega), Option.bind_some, if_pos (decide_eq_true rfl), if_pos rfl, works_k]; rfl
  unfold peaveylaw03_GapRuns.f peaveylaw03_great.f
  simp only [Option.bind_some]
  by_cases h : (l.length : Int) > 40
  · rw [if_pos (decide_eq_true h)]; exact triv
  · rw [if_neg (by rw [decide_eq_true_eq]; exact h)]
    by_cases hx : (x.length : Int) > 40
    · rw [decide_eq_true hx]; exact triv
    · rw [decide_eq_false hx]; exact key (by omega)
end Go.Proofs.Ytmfonbonfhngnaa.Pure
