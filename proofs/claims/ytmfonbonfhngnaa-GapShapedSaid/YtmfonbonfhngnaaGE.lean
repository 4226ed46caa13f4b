/- Texts of the claim, joined: HRefR, HMonN, HCan, HTab, HPot, HWay, HCut, HTrn, HPsh, HCkT. -/
import Derived.Test.YtmfonbonfhngnaaGD
import Derived.Test.YtmfonbonfhngnaaPrR1
import Derived.Test.YtmfonbonfhngnaaGB
import Derived.Test.YtmfonbonfhngnaaGC
/- The reference's CheckRow is the program's. -/
namespace Go.Proofs.Ytmfonbonfhngnaa.Hand
set_option linter.unusedVariables false
set_option linter.unusedSimpArgs false
open Go.RowKit Go.Maps Go.Proofs.YtmfonbonfhngnaaW.PrintWords Go.Proofs.YtmfonbonfhngnaaW.PrintLast Go.Proofs.YtmfonbonfhngnaaW.PrintMore Go.Proofs.Ytmfonbonfhngnaa.PrR

theorem refRow_l (l : List Int) (hl : l.length ≤ 30) : ∀ (d j k : Nat), l.length - j = d → j ≤ l.length → d < k → peaveyref03_CheckRow.l0 k l (j : Int) = some (if (l.drop j).any (outB 1 1099511627776) then 3 else 0)
  | 0, j, k, hd, hj, hk => by
    obtain ⟨k, rfl⟩ : ∃ q, k = q + 1 := ⟨k - 1, by omega⟩
    rw [peaveyref03_CheckRow.l0, if_neg (by omega), List.drop_eq_nil_of_le (by omega)]
    rfl
  | d + 1, j, k, hd, hj, hk => by
    obtain ⟨k, rfl⟩ : ∃ q, k = q + 1 := ⟨k - 1, by omega⟩
    have hlt : j < l.length := by omega
    have ih := refRow_l l hl d (j + 1) k (by omega) (by omega) (by omega)
    rw [peaveyref03_CheckRow.l0, if_pos (by omega), if_pos (by omega), List.drop_eq_getElem_cons hlt, List.any_cons]
    have he : rd l (j : Int) = l[j] := by simp [rd, hlt]
    rw [he, IntWalk.wrap64_in _ ⟨by omega, by omega⟩, show ((j : Int) + 1) = ((j + 1 : Nat) : Int) by omega, ih]
    obtain ⟨x, hx⟩ : ∃ x, x = l[j] := ⟨_, rfl⟩
    rw [← hx]
    unfold outB
    by_cases h1 : x < 1
    · rw [if_pos h1]; simp [h1]
    · rw [if_neg h1]
      by_cases h2 : x > 1099511627776
      · rw [if_pos h2]; simp [h2]
      · rw [if_neg h2]; simp [h1, h2]
theorem refRow_is (l : List Int) (k : Nat) (hk : 31 ≤ k) : peaveyref03_CheckRow.f k l = some (rowE l) := by
  unfold peaveyref03_CheckRow.f rowE
  by_cases h : (l.length : Int) > 30
  · rw [if_pos h, if_pos h]
  · rw [if_neg h, if_neg h]
    have := refRow_l l (by omega) l.length 0 k (by omega) (by omega) (by omega)
    rw [List.drop_zero] at this
    rw [← this]; rfl
end Go.Proofs.Ytmfonbonfhngnaa.Hand

/- More rounds tell no other answer: the net's functions. -/
namespace Go.Proofs.Ytmfonbonfhngnaa.Hand
set_option linter.unusedVariables false
set_option linter.unusedSimpArgs false
open Go.RowKit Go.Proofs.YtmfonbonfhngnaaW.PrintWords Go.Proofs.Ytmfonbonfhngnaa.PrA
set_option linter.unusedVariables false

theorem leQ_rfl {α : Type} (a : Option α) : LeO a a := fun _ h => h
theorem leQ_ite {α : Type} {c : Prop} [Decidable c] {a b a' b' : Option α} (h1 : c → LeO a a') (h2 : ¬ c → LeO b b') : LeO (if c then a else b) (if c then a' else b') := by
  by_cases h : c
  · rw [if_pos h, if_pos h]; exact h1 h
  · rw [if_neg h, if_neg h]; exact h2 h
theorem leQ_bnd {α β : Type} {a a' : Option α} {f f' : α → Option β} (h : LeO a a') (hf : ∀ x, LeO (f x) (f' x)) : LeO (a.bind f) (a'.bind f') := by
  intro r hr
  obtain ⟨x, hx, hr⟩ := Option.bind_eq_some_iff.1 hr
  exact Option.bind_eq_some_iff.2 ⟨x, h x hx, hf x r hr⟩
theorem leQ_none {α : Type} (a : Option α) : LeO none a := fun _ h => by cases h
theorem searchN_le {l : List Int} {F : Nat → Nat → Int} {t : List Int} : ∀ {k k' : Nat} {G : Nat → Int}, k ≤ k' → LeO (searchN l F t k G) (searchN l F t k' G)
  | 0, _, _, _ => leQ_none _
  | k + 1, 0, _, h => by omega
  | k + 1, k' + 1, G, h => by
    rw [searchN, searchN]
    exact leQ_ite (fun _ => leQ_rfl _) fun _ => searchN_le (by omega)
theorem wayN_le {G : Nat → Int} (k : Nat) : ∀ {k' v : Nat} {F : Nat → Nat → Int} {t : List Int}, k ≤ k' → LeO (wayN G k v F t) (wayN G k' v F t) := by
  induction k with
  | zero =>
    intro k' v F t h
    cases v with
    | zero => cases k' <;> exact leQ_rfl _
    | succ v => exact leQ_none _
  | succ k ih =>
    intro k' v F t h
    obtain ⟨k', rfl⟩ : ∃ q, k' = q + 1 := ⟨k' - 1, by omega⟩
    cases v with
    | zero => exact leQ_rfl _
    | succ v =>
      rw [wayN, wayN]
      refine leQ_ite (fun _ => leQ_ite (fun _ => ih (by omega)) fun _ => leQ_ite (fun _ => leQ_ite (fun _ => ih (by omega)) fun _ => leQ_rfl _) fun _ => leQ_ite (fun _ => ih (by omega)) fun _ => leQ_rfl _) fun _ => leQ_rfl _
theorem pushL_le {l : List Int} {ks ks' kw kw' : Nat} (h1 : ks ≤ ks') (h2 : kw ≤ kw') : ∀ (m : Nat) {F : Nat → Nat → Int} {t out : List Int}, LeO (pushL l ks kw m F t out) (pushL l ks' kw' m F t out)
  | 0, F, t, out => by
    rw [pushL, pushL]
    intro r hr
    obtain ⟨G, hG, rfl⟩ := Option.map_eq_some_iff.1 hr
    exact Option.map_eq_some_iff.2 ⟨G, searchN_le h1 G hG, rfl⟩
  | m + 1, F, t, out => by
    rw [pushL, pushL]
    exact leQ_bnd (searchN_le h1) fun G => leQ_ite (fun _ => leQ_rfl _) fun _ => leQ_bnd (wayN_le _ h2) fun r => pushL_le h1 h2 m
theorem pushF_le (k : Nat) (l : List Int) (m : Int) : LeO (pushF k l m) (pushF (k + 1) l m) := by
  unfold pushF
  exact pushL_le (by omega) (by omega) _
theorem pathN_le {n : Nat} {p : Int} (k : Nat) : ∀ {k' v : Nat} {F : Nat → Nat → Int} {t out : List Int}, k ≤ k' → LeO (pathN n p k v F t out) (pathN n p k' v F t out) := by
  induction k with
  | zero =>
    intro k' v F t out h
    rw [pathN]
    by_cases e : v = 1
    · rw [if_pos e]
      cases k' with
      | zero => rw [pathN, if_pos e]; exact leQ_rfl _
      | succ k' => rw [pathN, if_pos e]; exact leQ_rfl _
    · rw [if_neg e]; exact leQ_none _
  | succ k ih =>
    intro k' v F t out h
    obtain ⟨k', rfl⟩ : ∃ q, k' = q + 1 := ⟨k' - 1, by omega⟩
    rw [pathN, pathN]
    exact leQ_ite (fun _ => leQ_rfl _) fun _ => leQ_ite (fun _ => leQ_ite (fun _ => ih (by omega)) fun _ => leQ_ite (fun _ => ih (by omega)) fun _ => leQ_rfl _) fun _ => leQ_rfl _
theorem turnN_le {n kp kp' : Nat} (hp : kp ≤ kp') (k : Nat) : ∀ {k' p : Nat} {F : Nat → Nat → Int} {t out : List Int}, k ≤ k' → LeO (turnN n kp k p F t out) (turnN n kp' k' p F t out) := by
  induction k with
  | zero => intro k' p F t out h; exact leQ_none _
  | succ k ih =>
    intro k' p F t out h
    obtain ⟨k', rfl⟩ : ∃ q, k' = q + 1 := ⟨k' - 1, by omega⟩
    rw [turnN, turnN]
    exact leQ_ite (fun _ => leQ_bnd (pathN_le _ hp) fun r => ih (by omega)) fun _ => leQ_rfl _
theorem gap_Most.mono : ∀ a0 a1 k, LeO (gap_Most.f k a0 a1) (gap_Most.f (k + 1) a0 a1) := by
  intro l m k
  unfold gap_Most.f
  exact leQ_ite (fun _ => leQ_rfl _) fun _ => leQ_bnd (pushF_le k l m) fun r => leQ_rfl _
theorem gap_Shape.mono : ∀ a0 k, LeO (gap_Shape.f k a0) (gap_Shape.f (k + 1) a0) := by
  intro l k
  unfold gap_Shape.f
  exact leQ_ite (fun _ => leQ_rfl _) fun _ => leQ_bnd (pushF_le k l 30) fun r => leQ_rfl _
theorem gap_Turning.mono : ∀ a0 a1 k, LeO (gap_Turning.f k a0 a1) (gap_Turning.f (k + 1) a0 a1) := by
  intro l m k
  unfold gap_Turning.f
  exact leQ_ite (fun _ => leQ_rfl _) fun _ => leQ_bnd (pushF_le k l m) fun r => leQ_bnd (turnN_le (by omega) _ (by omega)) fun q => leQ_rfl _
theorem gap_Runs.mono : ∀ a0 a1 k, LeO (gap_Runs.f k a0 a1) (gap_Runs.f (k + 1) a0 a1) := by
  intro l m k
  unfold gap_Runs.f
  exact leQ_ite (fun _ => leQ_rfl _) fun _ => leQ_bnd (pushF_le k l m) fun r => leQ_rfl _
theorem anyO_le {p p' : List Int → Option Bool} (h : ∀ x, LeO (p x) (p' x)) : ∀ (L : List (List Int)), LeO (anyO p L) (anyO p' L)
  | [] => leQ_rfl _
  | x :: L => by
    rw [anyO, anyO]
    exact leQ_bnd (h x) fun b => leQ_ite (fun _ => anyO_le h L) fun _ => leQ_rfl _
theorem gap_CheckRuns.mono : ∀ a0 a1 a2 k, LeO (gap_CheckRuns.f k a0 a1 a2) (gap_CheckRuns.f (k + 1) a0 a1 a2) := by
  intro l m xs k
  unfold gap_CheckRuns.f
  exact leQ_ite (fun _ => leQ_rfl _) fun _ => leQ_ite (fun _ => leQ_rfl _) fun _ => leQ_bnd (anyO_le (fun x => gap_listed.mono l x k) xs) fun b => leQ_ite (fun _ => leQ_rfl _) fun _ => leQ_bnd (anyO_le (fun x => gap_falls.mono l x k) xs) fun b => leQ_rfl _
end Go.Proofs.Ytmfonbonfhngnaa.Hand

/- How many logs pockets can take: chains packed letter by letter. No bound on the row. -/
namespace Go.Proofs.Ytmfonbonfhngnaa.Hand
set_option linter.unusedVariables false
set_option linter.unusedSimpArgs false

/-- a state with one pocket's last number changed -/
def updS (s : Nat → Int) (p : Nat) (a : Int) : Nat → Int := fun q => if q = p then a else s q
theorem updS_same (s : Nat → Int) (p : Nat) (a : Int) : updS s p a p = a := by simp [updS]
theorem updS_other (s : Nat → Int) {p q : Nat} (a : Int) (h : q ≠ p) : updS s p a q = s q := by simp [updS, h]

/-- k pockets, whose last numbers are s, can take c logs of a row -/
inductive Can (k : Nat) : (Nat → Int) → List Int → Nat → Prop
  | nil (s : Nat → Int) : Can k s [] 0
  | skip {s : Nat → Int} {a : Int} {w : List Int} {c : Nat} : Can k s w c → Can k s (a :: w) c
  | take {s : Nat → Int} {a : Int} {w : List Int} {c p : Nat} : p < k → s p ≤ a → Can k (updS s p a) w c → Can k s (a :: w) (c + 1)

theorem Can.mono {k : Nat} {s : Nat → Int} {w : List Int} {c : Nat} (h : Can k s w c) : ∀ {s' : Nat → Int}, (∀ p, s' p ≤ s p) → Can k s' w c := by
  induction h with
  | nil s => intro s' _; exact .nil _
  | skip _ ih => intro s' hs; exact .skip (ih hs)
  | @take s a w c p hp hle _ ih =>
    intro s' hs
    refine .take hp (Int.le_trans (hs p) hle) (ih fun q => ?_)
    unfold updS
    split
    · exact Int.le_refl _
    · exact hs q
/-- two pockets exchanged -/
def swapP (i j : Nat) (p : Nat) : Nat := if p = i then j else if p = j then i else p
theorem swapP_swapP (i j p : Nat) : swapP i j (swapP i j p) = p := by
  unfold swapP
  repeat' split
  all_goals omega
theorem swapP_lt {i j k p : Nat} (hi : i < k) (hj : j < k) (hp : p < k) : swapP i j p < k := by
  unfold swapP
  repeat' split
  all_goals omega
theorem Can.swap {k : Nat} {s : Nat → Int} {w : List Int} {c i j : Nat} (hi : i < k) (hj : j < k) (h : Can k s w c) : Can k (fun p => s (swapP i j p)) w c := by
  induction h with
  | nil s => exact .nil _
  | skip _ ih => exact .skip ih
  | @take s a w c p hp hle _ ih =>
    refine .take (p := swapP i j p) (swapP_lt hi hj hp) (by rw [swapP_swapP]; exact hle) ?_
    refine ih.mono fun q => ?_
    by_cases e : q = swapP i j p
    · subst e
      rw [updS_same, swapP_swapP, updS_same]; exact Int.le_refl _
    · have : swapP i j q ≠ p := fun h => e (by rw [← h, swapP_swapP])
      rw [updS_other _ _ e, updS_other _ _ this]; exact Int.le_refl _
theorem Can.after {k : Nat} {a b : List Int} (h : ∀ s c, Can k s a c → Can k s b c) (u : List Int) : ∀ s c, Can k s (u ++ a) c → Can k s (u ++ b) c := by
  induction u with
  | nil => exact h
  | cons x u ih =>
    intro s c hc
    cases hc with
    | skip hc => exact .skip (ih _ _ hc)
    | take hp hle hc => exact .take hp hle (ih _ _ hc)
/-- two logs beside each other: either they can be exchanged, or one pocket takes both -/
theorem can_commute {Q : Prop} {k : Nat} {s : Nat → Int} {x z : Int} {v : List Int} {c : Nat} (h : Can k s (x :: z :: v) c) (hx : Can k s (z :: x :: v) c → Q)
    (hb : ∀ p c', p < k → s p ≤ x → x ≤ z → Can k (updS s p z) v c' → c = c' + 2 → Q) : Q := by
  cases h with
  | skip h =>
    cases h with
    | skip h => exact hx (.skip (.skip h))
    | take hp hle h => exact hx (.take hp hle (.skip h))
  | @take _ _ _ c1 p hp hle h =>
    cases h with
    | skip h => exact hx (.skip (.take hp hle h))
    | @take _ _ _ c2 q hq hle2 h =>
      by_cases e : q = p
      · subst e
        rw [updS_same] at hle2
        refine hb q c2 hq hle hle2 (h.mono fun r => ?_) rfl
        unfold updS
        repeat' split
        all_goals first | exact Int.le_refl _ | omega
      · rw [updS_other _ _ e] at hle2
        refine hx (.take hq hle2 (.take hp (by rw [updS_other _ _ (Ne.symm e)]; exact hle) (h.mono fun r => ?_)))
        unfold updS
        repeat' split
        all_goals first | exact Int.le_refl _ | omega
theorem can_xzy {k : Nat} {x y z : Int} (h1 : x ≤ y) (h2 : y < z) (v : List Int) (s : Nat → Int) (c : Nat) (h : Can k s (x :: z :: y :: v) c) : Can k s (z :: x :: y :: v) c := by
  refine can_commute h id fun p c' hp hle _ hc he => ?_
  subst he
  cases hc with
  | skip hc =>
    refine .skip (.take hp hle (.take hp (by rw [updS_same]; exact h1) (hc.mono fun r => ?_)))
    unfold updS
    repeat' split
    all_goals first | exact Int.le_refl _ | omega
  | @take _ _ _ c2 q hq hle2 hc =>
    by_cases e : q = p
    · subst e; rw [updS_same] at hle2; omega
    · rw [updS_other _ _ e] at hle2
      refine .take hq (by omega) (.take hp (by rw [updS_other _ _ (Ne.symm e)]; exact hle) (.take hp (by rw [updS_same]; exact h1) ((hc.swap hp hq).mono fun r => ?_)))
      unfold updS swapP
      repeat' split
      all_goals first | exact Int.le_refl _ | omega
theorem can_zxy {k : Nat} {x y z : Int} (h1 : x ≤ y) (h2 : y < z) (v : List Int) (s : Nat → Int) (c : Nat) (h : Can k s (z :: x :: y :: v) c) : Can k s (x :: z :: y :: v) c :=
  can_commute h id fun p c' hp hle hxz hc he => by omega
theorem can_yxz {k : Nat} {x y z : Int} (h1 : x < y) (h2 : y ≤ z) (v : List Int) (s : Nat → Int) (c : Nat) (h : Can k s (y :: x :: z :: v) c) : Can k s (y :: z :: x :: v) c := by
  cases h with
  | skip h =>
    refine can_commute h .skip fun p c' hp hle _ hc he => ?_
    subst he
    refine .take hp (by omega) (.take hp (by rw [updS_same]; exact h2) (.skip (hc.mono fun r => ?_)))
    unfold updS
    repeat' split
    all_goals first | exact Int.le_refl _ | omega
  | @take _ _ _ c1 q hq hle h =>
    refine can_commute h (.take hq hle) fun p c' hp hle2 _ hc he => ?_
    subst he
    by_cases e : p = q
    · subst e; rw [updS_same] at hle2; omega
    · rw [updS_other _ _ e] at hle2
      refine .take hq hle (.take hq (by rw [updS_same]; exact h2) (.take hp (by rw [updS_other _ _ e, updS_other _ _ e]; exact hle2) ((hc.swap hp hq).mono fun r => ?_)))
      unfold updS swapP
      repeat' split
      all_goals first | exact Int.le_refl _ | omega
theorem can_yzx {k : Nat} {x y z : Int} (h1 : x < y) (h2 : y ≤ z) (v : List Int) (s : Nat → Int) (c : Nat) (h : Can k s (y :: z :: x :: v) c) : Can k s (y :: x :: z :: v) c := by
  have := Can.after (k := k) (a := z :: x :: v) (b := x :: z :: v) (fun s c h => can_commute h id fun p c' hp hle hxz hc he => by omega) [y] s c h
  exact this

/-- rows that are one another's by exchanges of two neighbours beside a third one that lies between them -/
inductive Kn : List Int → List Int → Prop
  | refl (w : List Int) : Kn w w
  | symm {v w : List Int} : Kn v w → Kn w v
  | trans {u v w : List Int} : Kn u v → Kn v w → Kn u w
  | one {x y z : Int} (u v : List Int) : x ≤ y → y < z → Kn (u ++ x :: z :: y :: v) (u ++ z :: x :: y :: v)
  | two {x y z : Int} (u v : List Int) : x < y → y ≤ z → Kn (u ++ y :: x :: z :: v) (u ++ y :: z :: x :: v)

theorem Kn.can {v w : List Int} (h : Kn v w) (k : Nat) : ∀ (s : Nat → Int) (c : Nat), Can k s v c ↔ Can k s w c := by
  induction h with
  | refl w => intro s c; exact Iff.rfl
  | symm _ ih => intro s c; exact (ih s c).symm
  | trans _ _ ih1 ih2 => intro s c; exact (ih1 s c).trans (ih2 s c)
  | one u v h1 h2 => intro s c; exact ⟨Can.after (fun s c => can_xzy h1 h2 v s c) u s c, Can.after (fun s c => can_zxy h1 h2 v s c) u s c⟩
  | two u v h1 h2 => intro s c; exact ⟨Can.after (fun s c => can_yxz h1 h2 v s c) u s c, Can.after (fun s c => can_yzx h1 h2 v s c) u s c⟩
theorem Kn.append_left {v w : List Int} (h : Kn v w) (u : List Int) : Kn (u ++ v) (u ++ w) := by
  induction h with
  | refl w => exact .refl _
  | symm _ ih => exact .symm ih
  | trans _ _ ih1 ih2 => exact .trans ih1 ih2
  | one u' v h1 h2 => rw [← List.append_assoc, ← List.append_assoc]; exact .one _ _ h1 h2
  | two u' v h1 h2 => rw [← List.append_assoc, ← List.append_assoc]; exact .two _ _ h1 h2
theorem Kn.append_right {v w : List Int} (h : Kn v w) (u : List Int) : Kn (v ++ u) (w ++ u) := by
  induction h with
  | refl w => exact .refl _
  | symm _ ih => exact .symm ih
  | trans _ _ ih1 ih2 => exact .trans ih1 ih2
  | one u' v h1 h2 => rw [List.append_assoc, List.append_assoc]; exact .one _ _ h1 h2
  | two u' v h1 h2 => rw [List.append_assoc, List.append_assoc]; exact .two _ _ h1 h2
theorem Kn.perm {v w : List Int} (h : Kn v w) : v.Perm w := by
  induction h with
  | refl w => exact .refl _
  | symm _ ih => exact ih.symm
  | trans _ _ ih1 ih2 => exact ih1.trans ih2
  | one u v h1 h2 => exact List.Perm.append_left u (List.Perm.swap _ _ _)
  | two u v h1 h2 => exact List.Perm.append_left u (List.Perm.cons _ (List.Perm.swap _ _ _))
/-- the same from the rows' ends, where no number stands twice -/
theorem Kn.back {v w : List Int} (h : Kn v w) (hd : v.Nodup) : Kn v.reverse w.reverse := by
  induction h with
  | refl w => exact .refl _
  | symm h ih => exact .symm (ih (h.perm.nodup_iff.2 hd))
  | trans h1 h2 ih1 ih2 => exact .trans (ih1 hd) (ih2 (h1.perm.nodup_iff.1 hd))
  | @one x y z u v h1 h2 =>
    have hne : x ≠ y := by
      intro e; subst e
      have := (List.nodup_append.1 hd).2.1
      simp at this
    have : Kn (v.reverse ++ y :: z :: x :: u.reverse) (v.reverse ++ y :: x :: z :: u.reverse) := .symm (.two _ _ (by omega) (by omega))
    simpa [List.append_assoc] using this
  | @two x y z u v h1 h2 =>
    have hne : y ≠ z := by
      intro e; subst e
      have := (List.nodup_append.1 hd).2.1
      simp at this
    have : Kn (v.reverse ++ z :: x :: y :: u.reverse) (v.reverse ++ x :: z :: y :: u.reverse) := .symm (.one _ _ (by omega) (by omega))
    simpa [List.append_assoc] using this
end Go.Proofs.Ytmfonbonfhngnaa.Hand

/- No pockets take more than the bound of runs; how many a tableau's row takes. No condition. -/
namespace Go.Proofs.Ytmfonbonfhngnaa.Hand
set_option linter.unusedVariables false
set_option linter.unusedSimpArgs false

def sumF : Nat → (Nat → Nat) → Nat
  | 0, _ => 0
  | n + 1, f => sumF n f + f n
theorem sumF_le {n : Nat} {f g : Nat → Nat} (h : ∀ i, i < n → f i ≤ g i) : sumF n f ≤ sumF n g := by
  induction n with
  | zero => exact Nat.le_refl _
  | succ n ih => exact Nat.add_le_add (ih fun i hi => h i (by omega)) (h n (by omega))
theorem sumF_congr {n : Nat} {f g : Nat → Nat} (h : ∀ i, i < n → f i = g i) : sumF n f = sumF n g :=
  Nat.le_antisymm (sumF_le fun i hi => Nat.le_of_eq (h i hi)) (sumF_le fun i hi => Nat.le_of_eq (h i hi).symm)
theorem sumF_lt {n j : Nat} {f g : Nat → Nat} (hj : j < n) (h : ∀ i, i < n → f i ≤ g i) (h1 : f j + 1 ≤ g j) : sumF n f + 1 ≤ sumF n g := by
  induction n with
  | zero => omega
  | succ n ih =>
    by_cases e : j = n
    · subst e
      have := sumF_le (n := j) fun i hi => h i (by omega)
      simp only [sumF]; omega
    · have := ih (by omega) fun i hi => h i (by omega)
      have := h n (by omega)
      simp only [sumF]; omega
theorem sumF_zero (n : Nat) : sumF n (fun _ => 0) = 0 := by
  induction n with
  | zero => rfl
  | succ n ih => simp [sumF, ih]
theorem sumF_add (n : Nat) (f g : Nat → Nat) : sumF n (fun i => f i + g i) = sumF n f + sumF n g := by
  induction n with
  | zero => rfl
  | succ n ih => simp only [sumF, ih]; omega
theorem sumF_ite (n m : Nat) (h : m ≤ n) : sumF n (fun i => if i < m then 1 else 0) = m := by
  have key : ∀ n, sumF n (fun i => if i < m then 1 else 0) = min m n := by
    intro n
    induction n with
    | zero => simp [sumF]
    | succ n ih =>
      simp only [sumF, ih]
      split <;> omega
  rw [key]; omega

/-- how many logs have a tag -/
def cntT (w : List (Int × Nat)) (j : Nat) : Nat := w.countP (fun x => x.2 == j)
/-- how many pockets can still take a log with a tag -/
def freeT (k : Nat) (s : Nat → Int) (w : List (Int × Nat)) (j : Nat) : Nat := (List.range k).countP (fun p => w.any fun x => x.2 == j && decide (s p ≤ x.1))
theorem freeT_le (k : Nat) (s : Nat → Int) (w : List (Int × Nat)) (j : Nat) : freeT k s w j ≤ k := by
  unfold freeT
  exact Nat.le_trans List.countP_le_length (by simp)
theorem freeT_mono {k : Nat} {s s' : Nat → Int} {w : List (Int × Nat)} {x : Int × Nat} (h : ∀ p, s p ≤ s' p) (j : Nat) : freeT k s' w j ≤ freeT k s (x :: w) j := by
  unfold freeT
  refine List.countP_mono_left fun p _ hp => ?_
  rw [List.any_eq_true] at hp ⊢
  obtain ⟨y, hy, h2⟩ := hp
  refine ⟨y, List.mem_cons_of_mem _ hy, ?_⟩
  simp only [Bool.and_eq_true, decide_eq_true_eq] at h2 ⊢
  exact ⟨h2.1, Int.le_trans (h p) h2.2⟩
theorem countP_lt {α : Type} {l : List α} {P Q : α → Bool} (h : ∀ x ∈ l, P x = true → Q x = true) {a : α} (ha : a ∈ l) (h1 : P a = false) (h2 : Q a = true) : l.countP P + 1 ≤ l.countP Q := by
  induction l with
  | nil => cases ha
  | cons y l ih =>
    simp only [List.countP_cons]
    by_cases e : a = y
    · subst e
      have := List.countP_mono_left (p := P) (q := Q) (l := l) fun x hx => h x (List.mem_cons_of_mem _ hx)
      rw [h1, h2]; simp; omega
    · have hm : a ∈ l := by
        rcases List.mem_cons.1 ha with rfl | h'
        · exact absurd rfl e
        · exact h'
      have := ih (fun x hx => h x (List.mem_cons_of_mem _ hx)) hm
      have hy := h y (List.mem_cons_self)
      cases hp : P y
      · simp; omega
      · rw [hy hp]; simp; omega
theorem updS_ge {s : Nat → Int} {p : Nat} {a : Int} (h : s p ≤ a) (q : Nat) : s q ≤ updS s p a q := by
  unfold updS
  split
  · rename_i e; rw [e]; exact h
  · exact Int.le_refl _
theorem weakT {k J : Nat} : ∀ (w : List (Int × Nat)), w.Pairwise (fun x y => x.2 = y.2 → y.1 < x.1) → (∀ x ∈ w, x.2 < J) → ∀ {s : Nat → Int} {c : Nat}, Can k s (w.map Prod.fst) c →
    c ≤ sumF J (fun j => min (freeT k s w j) (cntT w j)) := by
  intro w
  induction w with
  | nil => intro _ _ s c h; cases h; exact Nat.zero_le _
  | cons x w ih =>
    intro hd hJ s c h
    obtain ⟨hd1, hd2⟩ := List.pairwise_cons.1 hd
    have ih' := fun {s c} => @ih hd2 (fun y hy => hJ y (List.mem_cons_of_mem _ hy)) s c
    have hcnt : ∀ j, cntT w j ≤ cntT (x :: w) j := fun j => by unfold cntT; rw [List.countP_cons]; exact Nat.le_add_right _ _
    rw [List.map_cons] at h
    cases h with
    | skip h =>
      refine Nat.le_trans (ih' h) (sumF_le fun j _ => ?_)
      have h1 := freeT_mono (k := k) (s := s) (s' := s) (w := w) (x := x) (fun _ => Int.le_refl _) j
      have h2 := hcnt j
      omega
    | @take _ _ _ c1 p hp hle h =>
      refine Nat.le_trans (Nat.add_le_add_right (ih' h) 1) (sumF_lt (j := x.2) (hJ x List.mem_cons_self) (fun j _ => ?_) ?_)
      · have h1 := freeT_mono (k := k) (s := s) (s' := updS s p x.1) (w := w) (x := x) (updS_ge hle) j
        have h2 := hcnt j
        omega
      · have h1 : freeT k (updS s p x.1) w x.2 + 1 ≤ freeT k s (x :: w) x.2 := by
          unfold freeT
          refine countP_lt (a := p) (fun q _ hq => ?_) (List.mem_range.2 hp) ?_ ?_
          · rw [List.any_eq_true] at hq ⊢
            obtain ⟨y, hy, h2⟩ := hq
            refine ⟨y, List.mem_cons_of_mem _ hy, ?_⟩
            simp only [Bool.and_eq_true, decide_eq_true_eq] at h2 ⊢
            refine ⟨h2.1, Int.le_trans ?_ h2.2⟩
            unfold updS
            split
            · rename_i e; rw [e]; exact hle
            · exact Int.le_refl _
          · rw [List.any_eq_false]
            intro y hy
            simp only [Bool.and_eq_true, decide_eq_true_eq, beq_iff_eq, updS_same]
            rintro ⟨h1, h2⟩
            have := hd1 y hy h1.symm
            omega
          · rw [List.any_eq_true]
            exact ⟨x, List.mem_cons_self, by simp [hle]⟩
        have h2 : cntT w x.2 + 1 = cntT (x :: w) x.2 := by unfold cntT; rw [List.countP_cons]; simp
        omega
/-- no pockets take more than the bound of runs -/
theorem weak {k J : Nat} {w : List (Int × Nat)} (hd : w.Pairwise (fun x y => x.2 = y.2 → y.1 < x.1)) (hJ : ∀ x ∈ w, x.2 < J) {s : Nat → Int} {c : Nat} (h : Can k s (w.map Prod.fst) c) :
    c ≤ sumF J (fun j => min k (cntT w j)) := by
  refine Nat.le_trans (weakT w hd hJ h) (sumF_le fun j _ => ?_)
  have := freeT_le k s w j
  omega

/-! ### the tableau -/
/-- a number is put into a line -/
def bump (n : Int) : List Int → List Int × Option Int
  | [] => ([n], none)
  | b :: r => if b ≤ n then (b :: (bump n r).1, (bump n r).2) else (n :: r, some b)
def insT (n : Int) : List (List Int) → List (List Int)
  | [] => [[n]]
  | r :: T => match (bump n r).2 with
    | none => (bump n r).1 :: T
    | some b => (bump n r).1 :: insT b T
def tabF (w : List Int) : List (List Int) := w.foldl (fun T n => insT n T) []
def wordT : List (List Int) → List Int
  | [] => []
  | r :: T => wordT T ++ r
inductive Over : List Int → List Int → Prop
  | nil (r : List Int) : Over r []
  | cons {a b : Int} {r r' : List Int} : a < b → Over r r' → Over (a :: r) (b :: r')
theorem Over.trans {a b : List Int} (h : Over a b) : ∀ {c : List Int}, Over b c → Over a c := by
  induction h with
  | nil r => intro c hc; cases hc; exact .nil _
  | cons h1 _ ih => intro c hc; cases hc with
    | nil => exact .nil _
    | cons h2 h3 => exact .cons (Int.lt_trans h1 h2) (ih h3)
theorem Over.length {a b : List Int} (h : Over a b) : b.length ≤ a.length := by
  induction h with
  | nil r => exact Nat.zero_le _
  | cons _ _ ih => simp; omega
abbrev Up (r : List Int) : Prop := r.Pairwise (· ≤ ·)
theorem bump_mem {n : Int} {r : List Int} {x : Int} (h : x ∈ (bump n r).1) : x = n ∨ x ∈ r := by
  induction r with
  | nil => left; simpa [bump] using h
  | cons b r ih =>
    unfold bump at h
    split at h
    · rcases List.mem_cons.1 h with rfl | h
      · exact .inr List.mem_cons_self
      · exact (ih h).imp id (List.mem_cons_of_mem _)
    · rcases List.mem_cons.1 h with rfl | h
      · exact .inl rfl
      · exact .inr (List.mem_cons_of_mem _ h)
theorem bump_up {n : Int} {r : List Int} (h : Up r) : Up (bump n r).1 := by
  induction r with
  | nil => simp [bump, Up]
  | cons b r ih =>
    obtain ⟨h1, h2⟩ := List.pairwise_cons.1 h
    unfold bump
    split
    · rename_i hb
      refine List.pairwise_cons.2 ⟨fun x hx => ?_, ih h2⟩
      rcases bump_mem hx with rfl | hx
      · exact hb
      · exact h1 x hx
    · rename_i hb
      exact List.pairwise_cons.2 ⟨fun x hx => by have := h1 x hx; omega, h2⟩
theorem bump_gt {n b : Int} {r : List Int} (h : (bump n r).2 = some b) : n < b := by
  induction r with
  | nil => simp [bump] at h
  | cons a r ih =>
    unfold bump at h
    split at h
    · exact ih h
    · have : a = b := by simpa using h
      omega
theorem bump_in {n b : Int} {r : List Int} (h : (bump n r).2 = some b) : b ∈ r := by
  induction r with
  | nil => simp [bump] at h
  | cons a r ih =>
    unfold bump at h
    split at h
    · exact List.mem_cons_of_mem _ (ih h)
    · have : a = b := by simpa using h
      exact this ▸ List.mem_cons_self
theorem bump_none {n : Int} {r : List Int} (h : (bump n r).2 = none) : (bump n r).1 = r ++ [n] := by
  induction r with
  | nil => rfl
  | cons a r ih =>
    unfold bump at h ⊢
    split at h
    · rename_i ha
      rw [if_pos ha]
      show a :: (bump n r).1 = _
      rw [ih h]; rfl
    · simp at h
theorem bump_length {n b : Int} {r : List Int} (h : (bump n r).2 = some b) : (bump n r).1.length = r.length := by
  induction r with
  | nil => simp [bump] at h
  | cons a r ih =>
    unfold bump at h ⊢
    split at h
    · rename_i ha
      rw [if_pos ha]
      show (bump n r).1.length + 1 = _
      rw [ih h]; rfl
    · rename_i ha; rw [if_neg ha]; rfl
theorem bump_head {n b : Int} {r : List Int} (h : (bump n r).2 = some b) : ∃ y t, (bump n r).1 = y :: t ∧ y ≤ n := by
  cases r with
  | nil => simp [bump] at h
  | cons a r =>
    unfold bump
    split
    · rename_i ha; exact ⟨a, _, rfl, ha⟩
    · exact ⟨n, _, rfl, Int.le_refl _⟩
theorem over_bump {n : Int} {r r' : List Int} (h : Over r r') : Over (bump n r).1 r' := by
  induction h with
  | nil r => exact .nil _
  | @cons a b r r' h1 h2 ih =>
    unfold bump
    split
    · exact .cons h1 ih
    · exact .cons (by omega) h2
theorem over_both {n b : Int} : ∀ {r r' : List Int}, Over r r' → (bump n r).2 = some b → Over (bump n r).1 (bump b r').1 := by
  intro r
  induction r with
  | nil => intro r' _ h; simp [bump] at h
  | cons a r ih =>
    intro r' ho h
    have hb := bump_gt h
    unfold bump at h
    unfold bump
    split at h
    · rename_i ha
      rw [if_pos ha]
      cases ho with
      | nil => exact .cons (by omega) (.nil _)
      | @cons _ b' _ r'' h1 h2 =>
        show Over (a :: (bump n r).1) (if b' ≤ b then (b' :: (bump b r'').1, (bump b r'').2) else (b :: r'', some b')).1
        split
        · exact .cons h1 (ih h2 h)
        · exact .cons (by omega) (over_bump h2)
    · rename_i ha
      rw [if_neg ha]
      obtain rfl : a = b := by simpa using h
      cases ho with
      | nil => exact .cons hb (.nil _)
      | @cons _ b' _ r'' h1 h2 =>
        show Over (n :: r) (if b' ≤ a then (b' :: (bump a r'').1, (bump a r'').2) else (a :: r'', some b')).1
        rw [if_neg (by omega)]
        exact .cons hb h2

/-- lines that are a tableau -/
structure IsTab (T : List (List Int)) : Prop where
  up : ∀ r ∈ T, Up r
  over : T.Pairwise Over
theorem insT_over {n : Int} {q : List Int} : ∀ {T : List (List Int)}, IsTab T → (∀ r ∈ T, Over q r) → (∀ m, (bump m q).2 = some n → ∀ r ∈ insT n T, Over (bump m q).1 r) := by
  intro T hT hq m hm
  cases T with
  | nil =>
    intro r hr
    obtain rfl : r = [n] := by simpa [insT] using hr
    have := over_both (n := m) (Over.nil q) hm
    simpa [bump] using this
  | cons r0 T =>
    have h0 : Over (bump m q).1 (bump n r0).1 := over_both (hq r0 List.mem_cons_self) hm
    have hrest : ∀ r ∈ T, Over (bump m q).1 r := fun r hr => over_bump (hq r (List.mem_cons_of_mem _ hr))
    intro r hr
    unfold insT at hr
    split at hr
    · rcases List.mem_cons.1 hr with rfl | hr
      · exact h0
      · exact hrest r hr
    · rename_i b hb
      rcases List.mem_cons.1 hr with rfl | hr
      · exact h0
      · exact h0.trans (by
          clear h0 hrest hq hm
          exact insT_over (T := T) ⟨fun r hr => hT.up r (List.mem_cons_of_mem _ hr), (List.pairwise_cons.1 hT.over).2⟩ (List.pairwise_cons.1 hT.over).1 n hb r hr)
termination_by T => T.length
theorem insT_tab (n : Int) : ∀ {T : List (List Int)}, IsTab T → IsTab (insT n T) := by
  intro T
  induction T generalizing n with
  | nil => intro _; exact ⟨fun r hr => by obtain rfl : r = [n] := by simpa [insT] using hr
                                          simp, by simp [insT]⟩
  | cons r T ih =>
    intro hT
    have hT' : IsTab T := ⟨fun r hr => hT.up r (List.mem_cons_of_mem _ hr), (List.pairwise_cons.1 hT.over).2⟩
    have ho := (List.pairwise_cons.1 hT.over).1
    unfold insT
    split
    · exact ⟨fun x hx => by
        rcases List.mem_cons.1 hx with rfl | hx
        · exact bump_up (hT.up r List.mem_cons_self)
        · exact hT'.up x hx, List.pairwise_cons.2 ⟨fun x hx => over_bump (ho x hx), hT'.over⟩⟩
    · rename_i b hb
      have hi := ih b hT'
      exact ⟨fun x hx => by
        rcases List.mem_cons.1 hx with rfl | hx
        · exact bump_up (hT.up r List.mem_cons_self)
        · exact hi.up x hx, List.pairwise_cons.2 ⟨insT_over hT' ho n hb, hi.over⟩⟩
theorem kn_through {a n : Int} (h : n < a) : ∀ {r : List Int}, Up (a :: r) → Kn (a :: (r ++ [n])) (a :: n :: r) := by
  intro r
  induction r generalizing a with
  | nil => intro _; exact .refl _
  | cons c r ih =>
    intro hu
    obtain ⟨h1, h2⟩ := List.pairwise_cons.1 hu
    have hc := h1 c List.mem_cons_self
    have := (ih (a := c) (by omega) h2).append_left [a]
    exact .trans this (.symm (.two [] r h hc))
theorem kn_bump {n b : Int} : ∀ {r : List Int}, Up r → (bump n r).2 = some b → Kn (r ++ [n]) (b :: (bump n r).1) := by
  intro r
  induction r with
  | nil => intro _ h; simp [bump] at h
  | cons a r ih =>
    intro hu h
    obtain ⟨h1, h2⟩ := List.pairwise_cons.1 hu
    unfold bump at h ⊢
    split at h
    · rename_i ha
      rw [if_pos ha]
      have h' : (bump n r).2 = some b := h
      obtain ⟨y, t, hy, hyn⟩ := bump_head h'
      have hgt := bump_gt h'
      have := (ih h2 h').append_left [a]
      rw [hy] at this
      refine .trans this ?_
      show Kn (a :: b :: y :: t) (b :: a :: (bump n r).1)
      rw [hy]
      refine .one [] t ?_ (by omega)
      have hm : y ∈ (bump n r).1 := by rw [hy]; exact List.mem_cons_self
      rcases bump_mem hm with rfl | hm
      · exact ha
      · exact h1 y hm
    · rename_i ha
      rw [if_neg ha]
      obtain rfl : a = b := by simpa using h
      exact kn_through (by omega) hu
theorem kn_ins (n : Int) : ∀ {T : List (List Int)}, IsTab T → Kn (wordT T ++ [n]) (wordT (insT n T)) := by
  intro T
  induction T generalizing n with
  | nil => intro _; exact .refl _
  | cons r T ih =>
    intro hT
    have hT' : IsTab T := ⟨fun r hr => hT.up r (List.mem_cons_of_mem _ hr), (List.pairwise_cons.1 hT.over).2⟩
    unfold insT
    split
    · rename_i hb
      show Kn (wordT T ++ r ++ [n]) (wordT T ++ (bump n r).1)
      rw [bump_none hb, List.append_assoc]; exact .refl _
    · rename_i b hb
      show Kn (wordT T ++ r ++ [n]) (wordT (insT b T) ++ (bump n r).1)
      have h1 := (kn_bump (hT.up r List.mem_cons_self) hb).append_left (wordT T)
      have h2 := (ih b hT').append_right (bump n r).1
      rw [List.append_assoc]
      refine .trans h1 ?_
      rw [List.append_assoc] at h2
      exact h2
theorem tab_fold : ∀ (w : List Int) {T : List (List Int)}, IsTab T → IsTab (w.foldl (fun T n => insT n T) T) ∧ Kn (wordT T ++ w) (wordT (w.foldl (fun T n => insT n T) T)) := by
  intro w
  induction w with
  | nil => intro T hT; exact ⟨hT, by rw [List.append_nil]; exact .refl _⟩
  | cons n w ih =>
    intro T hT
    obtain ⟨h1, h2⟩ := ih (insT_tab n hT)
    refine ⟨h1, .trans ?_ h2⟩
    have := (kn_ins n hT).append_right w
    rw [List.append_assoc] at this
    exact this
theorem tab_nil : IsTab [] := ⟨fun r hr => (by cases hr), .nil⟩
theorem tabF_tab (w : List Int) : IsTab (tabF w) := (tab_fold w tab_nil).1
theorem tabF_kn (w : List Int) : Kn w (wordT (tabF w)) := (tab_fold w tab_nil).2

/-! ### how many a tableau's lines are -/
def lens (T : List (List Int)) : List Nat := T.map List.length
def sumL (l : List Nat) : Nat := l.foldr (· + ·) 0
theorem can_skips {k : Nat} {v : List Int} {c : Nat} : ∀ (u : List Int) {s : Nat → Int}, Can k s v c → Can k s (u ++ v) c
  | [], _, h => h
  | _ :: u, _, h => .skip (can_skips u h)
theorem can_row {k j : Nat} (hj : j < k) {v : List Int} {c : Nat} : ∀ {r : List Int} {s : Nat → Int}, Up r → (∀ a ∈ r, s j ≤ a) → (∀ s', (∀ i, i ≠ j → s' i = s i) → Can k s' v c) → Can k s (r ++ v) (r.length + c) := by
  intro r
  induction r with
  | nil => intro s _ _ h; rw [List.length_nil, Nat.zero_add]; exact h s fun _ _ => rfl
  | cons a r ih =>
    intro s hu hs h
    obtain ⟨h1, h2⟩ := List.pairwise_cons.1 hu
    have := ih (s := updS s j a) h2 (fun b hb => by rw [updS_same]; exact h1 b hb) fun s' hs' => h s' fun i hi => by rw [hs' i hi, updS_other _ _ hi]
    have := Can.take hj (hs a List.mem_cons_self) this
    rw [List.length_cons, Nat.add_right_comm]
    exact this
theorem can_tab {k : Nat} : ∀ {T : List (List Int)} (j : Nat), (∀ r ∈ T, Up r) → ∀ {s : Nat → Int} {v : List Int} {c : Nat}, (∀ i, j ≤ i → ∀ r ∈ T, ∀ a ∈ r, s i ≤ a) → (∀ s', (∀ i, i < j → s' i = s i) → Can k s' v c) →
    Can k s (wordT T ++ v) (sumL ((lens T).take (k - j)) + c) := by
  intro T
  induction T with
  | nil => intro j _ s v c _ h; rw [show lens [] = [] from rfl, List.take_nil, show sumL [] = 0 from rfl, Nat.zero_add]; exact h s fun _ _ => rfl
  | cons r T ih =>
    intro j hu s v c hs h
    show Can k s (wordT T ++ r ++ v) _
    rw [List.append_assoc]
    by_cases hj : j < k
    · obtain ⟨d, hd⟩ : ∃ d, k - j = d + 1 := ⟨k - j - 1, by omega⟩
      have e : sumL ((lens (r :: T)).take (k - j)) = r.length + sumL ((lens T).take (k - (j + 1))) := by
        rw [hd, show k - (j + 1) = d by omega]; rfl
      rw [e, Nat.add_comm r.length, Nat.add_assoc]
      refine ih (j + 1) (fun x hx => hu x (List.mem_cons_of_mem _ hx)) (fun i hi x hx => hs i (by omega) x (List.mem_cons_of_mem _ hx)) fun s' hs' => ?_
      refine can_row hj (hu r List.mem_cons_self) (fun a ha => by rw [hs' j (by omega)]; exact hs j (Nat.le_refl _) r List.mem_cons_self a ha) fun s'' hs'' => ?_
      exact h s'' fun i hi => by rw [hs'' i (by omega), hs' i (by omega)]
    · rw [show k - j = 0 by omega, List.take_zero, show sumL [] = 0 from rfl, Nat.zero_add]
      exact can_skips _ (can_skips _ (h s fun _ _ => rfl))
/-- the word with each number's place in its line -/
def tagT : List (List Int) → List (Int × Nat)
  | [] => []
  | r :: T => tagT T ++ r.zipIdx
theorem tagT_fst (T : List (List Int)) : (tagT T).map Prod.fst = wordT T := by
  induction T with
  | nil => rfl
  | cons r T ih => simp [tagT, wordT, ih]
theorem mem_tagT {T : List (List Int)} {x : Int × Nat} (h : x ∈ tagT T) : ∃ r ∈ T, x ∈ r.zipIdx := by
  induction T with
  | nil => cases h
  | cons r T ih =>
    rcases List.mem_append.1 h with h | h
    · obtain ⟨q, hq, h2⟩ := ih h; exact ⟨q, List.mem_cons_of_mem _ hq, h2⟩
    · exact ⟨r, List.mem_cons_self, h⟩
theorem over_zip {r r' : List Int} (h : Over r r') : ∀ {m : Nat} {a b : Int} {j : Nat}, (b, j) ∈ r'.zipIdx m → (a, j) ∈ r.zipIdx m → a < b := by
  induction h with
  | nil r => intro m a b j h; cases h
  | @cons a0 b0 r r' h1 _ ih =>
    intro m a b j hb ha
    rw [List.zipIdx_cons] at hb ha
    have low : ∀ {l : List Int} {x : Int}, (x, j) ∈ l.zipIdx (m + 1) → m + 1 ≤ j := fun h => List.le_snd_of_mem_zipIdx h
    rcases List.mem_cons.1 hb with hb | hb
    · cases hb
      rcases List.mem_cons.1 ha with ha | ha
      · cases ha; exact h1
      · have := low ha; omega
    · rcases List.mem_cons.1 ha with ha | ha
      · cases ha
        have := low hb; omega
      · exact ih hb ha
theorem zip_pairwise (r : List Int) : ∀ (m : Nat), (r.zipIdx m).Pairwise (fun x y => x.2 = y.2 → y.1 < x.1) := by
  induction r with
  | nil => intro m; exact .nil
  | cons a r ih =>
    intro m
    rw [List.zipIdx_cons]
    refine List.pairwise_cons.2 ⟨fun y hy e => ?_, ih (m + 1)⟩
    have := List.le_snd_of_mem_zipIdx (x := y) hy
    simp only at e
    omega
theorem tagT_pairwise {T : List (List Int)} (h : T.Pairwise Over) : (tagT T).Pairwise (fun x y => x.2 = y.2 → y.1 < x.1) := by
  induction T with
  | nil => exact .nil
  | cons r T ih =>
    obtain ⟨h1, h2⟩ := List.pairwise_cons.1 h
    refine List.pairwise_append.2 ⟨ih h2, zip_pairwise r 0, fun x hx y hy e => ?_⟩
    obtain ⟨q, hq, hx⟩ := mem_tagT hx
    obtain ⟨a, i⟩ := y
    obtain ⟨b, j⟩ := x
    simp only at e
    subst e
    exact over_zip (h1 q hq) hx hy
theorem cnt_zip (r : List Int) (j : Nat) : ∀ m, cntT (r.zipIdx m) j = if m ≤ j ∧ j < m + r.length then 1 else 0 := by
  induction r with
  | nil => intro m; rw [if_neg (by simp only [List.length_nil]; omega)]; rfl
  | cons a r ih =>
    intro m
    have := ih (m + 1)
    unfold cntT at this ⊢
    rw [List.zipIdx_cons, List.countP_cons, this]
    simp only [List.length_cons, beq_iff_eq]
    repeat' split
    all_goals omega
theorem cnt_tagT (T : List (List Int)) (j : Nat) : cntT (tagT T) j = T.countP (fun r => decide (j < r.length)) := by
  induction T with
  | nil => rfl
  | cons r T ih =>
    have h1 := cnt_zip r j 0
    unfold cntT at ih h1 ⊢
    rw [tagT, List.countP_append, ih, h1, List.countP_cons]
    simp
theorem count_take {k j : Nat} : ∀ {T : List (List Int)}, T.Pairwise (fun a b => b.length ≤ a.length) → min k (T.countP (fun r => decide (j < r.length))) ≤ (T.take k).countP (fun r => decide (j < r.length)) := by
  induction k with
  | zero => intro T _; simp
  | succ k ih =>
    intro T h
    cases T with
    | nil => simp
    | cons r T =>
      obtain ⟨h1, h2⟩ := List.pairwise_cons.1 h
      have := ih h2
      simp only [List.take_succ_cons, List.countP_cons]
      by_cases hj : j < r.length
      · simp only [hj, decide_true, if_true]; omega
      · have hz : T.countP (fun r => decide (j < r.length)) = 0 := by
          rw [List.countP_eq_zero]
          intro x hx
          have := h1 x hx
          simp; omega
        simp [hj, hz]
theorem sum_count {J : Nat} : ∀ {T : List (List Int)}, (∀ r ∈ T, r.length ≤ J) → sumF J (fun j => T.countP (fun r => decide (j < r.length))) = sumL (lens T) := by
  intro T
  induction T with
  | nil => intro _; exact sumF_zero J
  | cons r T ih =>
    intro h
    have h1 := ih fun x hx => h x (List.mem_cons_of_mem _ hx)
    have h2 := sumF_ite J r.length (h r List.mem_cons_self)
    have e : sumF J (fun j => (r :: T).countP (fun r => decide (j < r.length))) = sumF J (fun j => T.countP (fun r => decide (j < r.length)) + if j < r.length then 1 else 0) := by
      refine sumF_congr fun i _ => ?_
      rw [List.countP_cons]; simp
    rw [e, sumF_add, h1, h2]
    simp only [lens, List.map_cons, sumL, List.foldr_cons]; omega
theorem lens_down {T : List (List Int)} (h : T.Pairwise Over) : T.Pairwise (fun a b => b.length ≤ a.length) := h.imp fun h => h.length
theorem len_bound (T : List (List Int)) : ∃ J, ∀ r ∈ T, r.length ≤ J := by
  induction T with
  | nil => exact ⟨0, fun _ hr => (List.not_mem_nil hr).elim⟩
  | cons r T ih =>
    obtain ⟨J, hJ⟩ := ih
    exact ⟨max J r.length, fun x hx => by
      rcases List.mem_cons.1 hx with rfl | hx
      · omega
      · have := hJ x hx; omega⟩
theorem tab_upper {k : Nat} {T : List (List Int)} (h : IsTab T) {s : Nat → Int} {c : Nat} (hc : Can k s (wordT T) c) : c ≤ sumL ((lens T).take k) := by
  obtain ⟨J, hJ⟩ := len_bound T
  rw [← tagT_fst] at hc
  have h1 := weak (J := J) (tagT_pairwise h.over) (fun x hx => by
    obtain ⟨r, hr, hx⟩ := mem_tagT hx
    have := hJ r hr
    have := List.snd_lt_of_mem_zipIdx hx
    omega) hc
  refine Nat.le_trans h1 (Nat.le_trans (sumF_le fun j _ => ?_) (Nat.le_of_eq ((sum_count (J := J) (T := T.take k) fun r hr => hJ r (List.mem_of_mem_take hr)).trans (by rw [lens, lens, List.map_take]))))
  rw [cnt_tagT]
  exact count_take (lens_down h.over)
/-- Greene's theorem: so many pockets take as many logs as the first lines have numbers, not more -/
theorem greene (k : Nat) (w : List Int) (s : Nat → Int) (hs : ∀ i, ∀ a ∈ w, s i ≤ a) : Can k s w (sumL ((lens (tabF w)).take k)) ∧ ∀ c, Can k s w c → c ≤ sumL ((lens (tabF w)).take k) := by
  have hk := tabF_kn w
  have hT := tabF_tab w
  refine ⟨(hk.can k s _).2 ?_, fun c hc => tab_upper hT ((hk.can k s c).1 hc)⟩
  have hmem : ∀ {T : List (List Int)} {r : List Int} {a : Int}, r ∈ T → a ∈ r → a ∈ wordT T := by
    intro T
    induction T with
    | nil => intro r a hr; cases hr
    | cons q T ih =>
      intro r a hr ha
      rcases List.mem_cons.1 hr with rfl | hr
      · exact List.mem_append_right _ ha
      · exact List.mem_append_left _ (ih hr ha)
  have := can_tab (k := k) (T := tabF w) 0 hT.up (s := s) (v := []) (c := 0) (fun i _ r hr a ha => hs i a (hk.perm.mem_iff.2 (hmem hr ha))) (fun s' _ => .nil s')
  simpa using this
end Go.Proofs.Ytmfonbonfhngnaa.Hand

/- Searches of a net come to an end, with ways that are the longest ones. Condition: numbers at the nodes that no step rises above. -/
namespace Go.Proofs.Ytmfonbonfhngnaa.Hand
set_option linter.unusedVariables false
set_option linter.unusedSimpArgs false
open Go.RowKit Go.Proofs.YtmfonbonfhngnaaW.PrintWords
set_option linter.unusedVariables false
set_option linter.unusedSimpArgs false

/-- a step: from a node to another one, how much longer the way is, and the sign of a log that it goes over -/
structure Edge where
  u : Nat
  v : Nat
  g : Int
  o : Int
def relE (G : Nat → Int) (e : Edge) : Nat → Int := relax G e.u e.v e.g e.o
def linkE (F : Nat → Nat → Int) (x : Nat × Nat) : List Edge := if 0 < F x.1 x.2 then [⟨x.1, x.2, 0, 0⟩, ⟨x.2, x.1, 0, 0⟩] else [⟨x.1, x.2, 0, 0⟩]
def logE (t : List Int) (i : Nat) : Edge := if rd t i = 0 then ⟨2 * i + 2, 2 * i + 3, 1, 1⟩ else ⟨2 * i + 3, 2 * i + 2, -1, -1⟩
def edges (l : List Int) (F : Nat → Nat → Int) (t : List Int) : List Edge := (linksL l).flatMap (linkE F) ++ (List.range t.length).map (logE t)
theorem links_fold (F : Nat → Nat → Int) : ∀ (L : List (Nat × Nat)) (G : Nat → Int), L.foldl (linkStep F) G = (L.flatMap (linkE F)).foldl relE G
  | [], _ => rfl
  | x :: L, G => by
    rw [List.foldl_cons, links_fold F L, List.flatMap_cons, List.foldl_append]
    congr 1
    unfold linkStep linkE relE
    split <;> rfl
theorem logs_fold (t : List Int) (G : Nat → Int) : ∀ k, logsTo t G k = ((List.range k).map (logE t)).foldl relE G
  | 0 => rfl
  | k + 1 => by
    rw [logsTo, logs_fold t G k, List.range_succ, List.map_append, List.foldl_append]
    unfold logStep logE relE
    simp only [List.map_cons, List.map_nil, List.foldl_cons, List.foldl_nil]
    split <;> rfl
theorem pass_fold (l : List Int) (F : Nat → Nat → Int) (t : List Int) (G : Nat → Int) : passF l F t G = (edges l F t).foldl relE G := by
  rw [passF, linksPass, logs_fold, links_fold, edges, List.foldl_append]
theorem mem_edges {l : List Int} {F : Nat → Nat → Int} {t : List Int} {e : Edge} : e ∈ edges l F t ↔ (∃ x ∈ linksL l, e = ⟨x.1, x.2, 0, 0⟩) ∨ (∃ x ∈ linksL l, 0 < F x.1 x.2 ∧ e = ⟨x.2, x.1, 0, 0⟩) ∨ (∃ i, i < t.length ∧ e = logE t i) := by
  unfold edges
  rw [List.mem_append, List.mem_flatMap, List.mem_map]
  constructor
  · rintro (⟨x, hx, he⟩ | ⟨i, hi, rfl⟩)
    · unfold linkE at he
      split at he
      · rename_i hf
        simp only [List.mem_cons, List.not_mem_nil, or_false] at he
        rcases he with rfl | rfl
        · exact .inl ⟨x, hx, rfl⟩
        · exact .inr (.inl ⟨x, hx, hf, rfl⟩)
      · simp only [List.mem_cons, List.not_mem_nil, or_false] at he
        exact .inl ⟨x, hx, he⟩
    · exact .inr (.inr ⟨i, List.mem_range.1 hi, rfl⟩)
  · rintro (⟨x, hx, rfl⟩ | ⟨x, hx, hf, rfl⟩ | ⟨i, hi, rfl⟩)
    · refine .inl ⟨x, hx, ?_⟩
      unfold linkE
      split <;> simp
    · refine .inl ⟨x, hx, ?_⟩
      unfold linkE
      rw [if_pos hf]; simp
    · exact .inr ⟨i, List.mem_range.2 hi, rfl⟩
theorem mem_behind {l : List Int} {i : Nat} {x : Nat × Nat} : ∀ d, x ∈ behind l i d ↔ ∃ j, i < j ∧ j < i + 1 + d ∧ rd l i ≤ rd l (j : Nat) ∧ x = (2 * i + 3, 2 * j + 2)
  | 0 => by
    constructor
    · intro h; cases h
    · rintro ⟨j, h1, h2, _⟩; omega
  | d + 1 => by
    rw [behind, List.mem_append, mem_behind d]
    constructor
    · rintro (⟨j, h1, h2, h3⟩ | h)
      · exact ⟨j, h1, by omega, h3⟩
      · split at h
        · rename_i hr
          exact ⟨i + 1 + d, by omega, by omega, hr, by simpa using h⟩
        · cases h
    · rintro ⟨j, h1, h2, h3, h4⟩
      by_cases e : j = i + 1 + d
      · subst e
        right
        rw [if_pos h3, h4]; simp
      · exact .inl ⟨j, h1, by omega, h3, h4⟩
theorem mem_linksTo {l : List Int} {x : Nat × Nat} : ∀ k, x ∈ linksTo l k ↔ ∃ i, i < k ∧ x ∈ linksAt l i
  | 0 => by
    constructor
    · intro h; cases h
    · rintro ⟨i, h, _⟩; omega
  | k + 1 => by
    rw [linksTo, List.mem_append, mem_linksTo k]
    constructor
    · rintro (⟨i, h, h2⟩ | h)
      · exact ⟨i, by omega, h2⟩
      · exact ⟨k, by omega, h⟩
    · rintro ⟨i, h, h2⟩
      by_cases e : i = k
      · subst e; exact .inr h2
      · exact .inl ⟨i, by omega, h2⟩
/-- which links there are -/
theorem mem_links {l : List Int} {a b : Nat} : (a, b) ∈ linksL l ↔ ∃ i, i < l.length ∧ ((a = 0 ∧ b = 2 * i + 2) ∨ (a = 2 * i + 2 ∧ b = 2 * i + 3) ∨ (a = 2 * i + 3 ∧ b = 1) ∨ ∃ j, i < j ∧ j < l.length ∧ rd l (i : Nat) ≤ rd l (j : Nat) ∧ a = 2 * i + 3 ∧ b = 2 * j + 2) := by
  unfold linksL
  rw [mem_linksTo]
  constructor
  · rintro ⟨i, hi, h⟩
    refine ⟨i, hi, ?_⟩
    rw [linksAt, List.mem_append, mem_behind] at h
    rcases h with h | ⟨j, h1, h2, h3, h4⟩
    · simp only [List.mem_cons, List.not_mem_nil, or_false, Prod.mk.injEq] at h
      rcases h with h | h | h
      · exact .inl h
      · exact .inr (.inl h)
      · exact .inr (.inr (.inl h))
    · rw [Prod.mk.injEq] at h4
      exact .inr (.inr (.inr ⟨j, h1, by omega, h3, h4.1, h4.2⟩))
  · rintro ⟨i, hi, h⟩
    refine ⟨i, hi, ?_⟩
    rw [linksAt, List.mem_append, mem_behind]
    rcases h with ⟨rfl, rfl⟩ | ⟨rfl, rfl⟩ | ⟨rfl, rfl⟩ | ⟨j, h1, h2, h3, rfl, rfl⟩
    · left; simp
    · left; simp
    · left; simp
    · exact .inr ⟨j, h1, by omega, h3, rfl⟩

/-! ### the ways that a search finds -/
/-- the nodes before a node, back to the beginning, in so many steps -/
inductive Chain (G : Nat → Int) : Nat → Nat → Prop
  | root : Chain G 0 0
  | step {v k : Nat} : v ≠ 0 → v < 62 → 0 ≤ G (62 + v) → Chain G (G (62 + v)).toNat k → Chain G v (k + 1)
/-- numbers at the nodes above which no step rises -/
structure Pot (E : List Edge) (q : Nat → Int) : Prop where
  zero : q 0 = 0
  lt : ∀ e ∈ E, e.u < 62 ∧ e.v < 62
  step : ∀ e ∈ E, q e.u + e.g ≤ q e.v
  top : ∀ v, v < 62 → q v ≤ 30
structure SInv (E : List Edge) (q G : Nat → Int) : Prop where
  low : ∀ v, v < 62 → farI ≤ G v
  zero : G 0 = 0
  up : ∀ v, v < 62 → farI < G v → G v ≤ q v
  pre : ∀ v, v < 62 → v ≠ 0 → farI < G v → ∃ e ∈ E, e.v = v ∧ G (62 + v) = e.u ∧ G (124 + v) = e.o ∧ farI < G e.u ∧ G v ≤ G e.u + e.g
  chain : ∀ v, v < 62 → farI < G v → ∃ k, Chain G v k
/-- no step makes a way longer -/
def Sat (E : List Edge) (G : Nat → Int) : Prop := ∀ e ∈ E, farI < G e.u → G e.u + e.g ≤ G e.v
theorem SInv.rel {E : List Edge} {q G : Nat → Int} (hq : Pot E q) (h : SInv E q G) {e : Edge} (he : e ∈ E) : SInv E q (relE G e) := by
  unfold relE relax
  split
  · rename_i hf
    obtain ⟨hfu, hfv⟩ := hf
    obtain ⟨hu, hv⟩ := hq.lt e he
    have hs := hq.step e he
    have hup := h.up e.u hu hfu
    have huv : e.u ≠ e.v := by
      intro e1; rw [e1] at hs hfv; omega
    have hv0 : e.v ≠ 0 := by
      intro e1
      have h1 := h.zero
      have h2 := hq.zero
      rw [e1] at hs hfv; omega
    obtain ⟨G', hG'⟩ : ∃ G', G' = upd (upd (upd G e.v (G e.u + e.g)) (62 + e.v) e.u) (124 + e.v) e.o := ⟨_, rfl⟩
    rw [← hG']
    have g0 : ∀ j, j < 62 → j ≠ e.v → G' j = G j := fun j hj hn => by rw [hG', upd_other _ _ (by omega), upd_other _ _ (by omega), upd_other _ _ hn]
    have g1 : G' e.v = G e.u + e.g := by rw [hG', upd_other _ _ (by omega), upd_other _ _ (by omega), upd_same]
    have g2 : ∀ j, j < 62 → j ≠ e.v → G' (62 + j) = G (62 + j) := fun j hj hn => by rw [hG', upd_other _ _ (by omega), upd_other _ _ (by omega), upd_other _ _ (by omega)]
    have g3 : G' (62 + e.v) = e.u := by rw [hG', upd_other _ _ (by omega), upd_same]
    have g4 : ∀ j, j < 62 → j ≠ e.v → G' (124 + j) = G (124 + j) := fun j hj hn => by rw [hG', upd_other _ _ (by omega), upd_other _ _ (by omega), upd_other _ _ (by omega)]
    have g5 : G' (124 + e.v) = e.o := by rw [hG', upd_same]
    clear hG'
    have ge : ∀ j, j < 62 → G j ≤ G' j := fun j hj => by
      by_cases ej : j = e.v
      · rw [ej, g1]; omega
      · rw [g0 j hj ej]; exact Int.le_refl _
    have avoid : ∀ {x k}, Chain G x k → (∃ k', Chain G' x k') ∨ (x < 62 → farI < G x → G x - q x ≤ G e.v - q e.v) := by
      intro x k hc
      induction hc with
      | root => exact .inl ⟨0, .root⟩
      | @step x k hx0 hx hb hc ih =>
        by_cases ex : x = e.v
        · subst ex; exact .inr fun _ _ => Int.le_refl _
        · rcases ih with ⟨k', ih⟩ | ih
          · exact .inl ⟨k' + 1, .step hx0 hx (by rw [g2 x hx ex]; exact hb) (by rw [g2 x hx ex]; exact ih)⟩
          · refine .inr fun _ hfx => ?_
            obtain ⟨e', he', rfl, p1, p2, p3, p4⟩ := h.pre x hx hx0 hfx
            rw [p1, Int.toNat_natCast] at ih
            have := ih (hq.lt e' he').1 p3
            have := hq.step e' he'
            omega
    obtain ⟨k0, hk0⟩ := h.chain e.u hu hfu
    have hcu : ∃ k', Chain G' e.u k' := by
      rcases avoid hk0 with h1 | h1
      · exact h1
      · have := h1 hu hfu; omega
    obtain ⟨ku, hku⟩ := hcu
    have hcv : Chain G' e.v (ku + 1) := .step hv0 hv (by rw [g3]; omega) (by rw [g3, Int.toNat_natCast]; exact hku)
    have all : ∀ {x k}, Chain G x k → ∃ k', Chain G' x k' := by
      intro x k hc
      induction hc with
      | root => exact ⟨0, .root⟩
      | @step x k hx0 hx hb hc ih =>
        by_cases ex : x = e.v
        · subst ex; exact ⟨_, hcv⟩
        · obtain ⟨k', ih⟩ := ih
          exact ⟨k' + 1, .step hx0 hx (by rw [g2 x hx ex]; exact hb) (by rw [g2 x hx ex]; exact ih)⟩
    refine ⟨fun v hv' => Int.le_trans (h.low v hv') (ge v hv'), by rw [g0 0 (by omega) (Ne.symm hv0)]; exact h.zero, fun x hx hfx => ?_, fun x hx hx0 hfx => ?_, fun x hx hfx => ?_⟩
    · by_cases ex : x = e.v
      · subst ex; rw [g1]; omega
      · rw [g0 x hx ex] at hfx ⊢; exact h.up x hx hfx
    · by_cases ex : x = e.v
      · subst ex
        exact ⟨e, he, rfl, g3, g5, by rw [g0 _ hu huv]; exact hfu, by rw [g1, g0 _ hu huv]; exact Int.le_refl _⟩
      · rw [g0 x hx ex] at hfx
        obtain ⟨e', he', rfl, p1, p2, p3, p4⟩ := h.pre x hx hx0 hfx
        have := ge e'.u (hq.lt e' he').1
        exact ⟨e', he', rfl, by rw [g2 _ hx ex, p1], by rw [g4 _ hx ex, p2], by omega, by rw [g0 _ hx ex]; omega⟩
    · by_cases ex : x = e.v
      · subst ex; exact ⟨_, hcv⟩
      · rw [g0 x hx ex] at hfx
        obtain ⟨k, hk⟩ := h.chain x hx hfx
        exact all hk
  · exact h
theorem rel_ge (G : Nat → Int) (e : Edge) (hv : e.v < 62) (j : Nat) (hj : j < 62) : G j ≤ relE G e j := by
  unfold relE relax
  split
  · rename_i hf
    rw [upd_other _ _ (by omega), upd_other _ _ (by omega)]
    unfold upd
    split
    · rename_i ej; rw [ej]; omega
    · exact Int.le_refl _
  · exact Int.le_refl _
theorem SInv.fold {E : List Edge} {q : Nat → Int} (hq : Pot E q) : ∀ (L : List Edge) {G : Nat → Int}, (∀ e ∈ L, e ∈ E) → SInv E q G → SInv E q (L.foldl relE G)
  | [], _, _, h => h
  | e :: L, G, hL, h => SInv.fold hq L (fun x hx => hL x (List.mem_cons_of_mem _ hx)) (h.rel hq (hL e List.mem_cons_self))
theorem fold_ge : ∀ (L : List Edge) (G : Nat → Int), (∀ e ∈ L, e.v < 62) → ∀ j, j < 62 → G j ≤ L.foldl relE G j
  | [], _, _, j, _ => Int.le_refl _
  | e :: L, G, hL, j, hj => Int.le_trans (rel_ge G e (hL e List.mem_cons_self) j hj) (fold_ge L (relE G e) (fun x hx => hL x (List.mem_cons_of_mem _ hx)) j hj)
theorem fold_same : ∀ (L : List Edge) (G : Nat → Int), (∀ e ∈ L, e.u < 62 ∧ e.v < 62) → (∀ j, j < 62 → L.foldl relE G j = G j) → L.foldl relE G = G ∧ ∀ e ∈ L, farI < G e.u → G e.u + e.g ≤ G e.v
  | [], _, _, _ => ⟨rfl, fun _ h => by cases h⟩
  | e :: L, G, hL, hs => by
    obtain ⟨hu, hv⟩ := hL e List.mem_cons_self
    have hL' : ∀ x ∈ L, x.u < 62 ∧ x.v < 62 := fun x hx => hL x (List.mem_cons_of_mem _ hx)
    have h1 := fold_ge L (relE G e) (fun x hx => (hL' x hx).2) e.v hv
    have h2 := hs e.v hv
    rw [List.foldl_cons] at h2
    have hno : ¬ (farI < G e.u ∧ G e.v < G e.u + e.g) := by
      intro hf
      have : relE G e e.v = G e.u + e.g := by
        unfold relE relax
        rw [if_pos hf, upd_other _ _ (by omega), upd_other _ _ (by omega), upd_same]
      omega
    have hr : relE G e = G := by
      unfold relE relax
      rw [if_neg hno]
    have ih := fold_same L G hL' (fun j hj => by have := hs j hj; rwa [List.foldl_cons, hr] at this)
    refine ⟨by rw [List.foldl_cons, hr]; exact ih.1, fun x hx hfx => ?_⟩
    rcases List.mem_cons.1 hx with rfl | hx
    · omega
    · exact ih.2 x hx hfx

/-- the sum of the first numbers -/
def totG : Nat → (Nat → Int) → Int
  | 0, _ => 0
  | k + 1, G => totG k G + G k
theorem totG_le {G G' : Nat → Int} : ∀ {k : Nat}, (∀ j, j < k → G j ≤ G' j) → totG k G ≤ totG k G'
  | 0, _ => Int.le_refl _
  | k + 1, h => by
    have h1 := totG_le (k := k) fun j hj => h j (by omega)
    have h2 := h k (by omega)
    simp only [totG]; omega
theorem totG_lt {G G' : Nat → Int} {i : Nat} : ∀ {k : Nat}, i < k → (∀ j, j < k → G j ≤ G' j) → G i < G' i → totG k G < totG k G'
  | 0, hi, _, _ => by omega
  | k + 1, hi, h, hl => by
    have h2 := h k (by omega)
    by_cases e : i = k
    · subst e
      have h1 := totG_le (k := i) fun j hj => h j (by omega)
      simp only [totG]; omega
    · have h1 := totG_lt (k := k) (by omega) (fun j hj => h j (by omega)) hl
      simp only [totG]; omega
theorem totG_const (c : Int) : ∀ k : Nat, totG k (fun _ => c) = k * c
  | 0 => by simp [totG]
  | k + 1 => by
    simp only [totG, totG_const c k]
    rw [show ((k + 1 : Nat) : Int) = (k : Int) + 1 by omega, Int.add_mul]; omega
theorem totG_start : ∀ k : Nat, k < 62 → totG (k + 1) startG = -1000 * (k : Int)
  | 0, _ => by simp [totG, startG]
  | k + 1, h => by
    rw [totG, totG_start k (by omega)]
    simp only [startG, farI]
    rw [if_neg (by omega), if_pos h]; omega
theorem start_inv {E : List Edge} {q : Nat → Int} (hq : Pot E q) : SInv E q startG := by
  have hf : ∀ v, v < 62 → farI < startG v → v = 0 := by
    intro v hv h
    unfold startG at h
    split at h
    · assumption
    · exact absurd h (Int.lt_irrefl _)
  refine ⟨fun v hv => ?_, rfl, fun v hv h => ?_, fun v hv h0 h => absurd (hf v hv h) h0, fun v hv h => ?_⟩
  · unfold startG farI
    split
    · omega
    · exact Int.le_refl _
  · have := hf v hv h
    subst this
    have := hq.zero
    show (0 : Int) ≤ _
    omega
  · have := hf v hv h
    subst this
    exact ⟨0, .root⟩
theorem search_go {l : List Int} {F : Nat → Nat → Int} {t : List Int} {q : Nat → Int} (hq : Pot (edges l F t) q) : ∀ (k : Nat) {G : Nat → Int}, SInv (edges l F t) q G → 1860 - totG 62 G < k →
    ∃ G', searchN l F t k G = some G' ∧ SInv (edges l F t) q G' ∧ Sat (edges l F t) G'
  | 0, G, h, hk => by
    have hb : ∀ j, j < 62 → G j ≤ 30 := fun j hj => by
      by_cases hf : farI < G j
      · have := h.up j hj hf
        have := hq.top j hj
        omega
      · unfold farI at hf; omega
    have := totG_le (k := 62) (G := G) (G' := fun _ => 30) hb
    rw [totG_const] at this
    omega
  | k + 1, G, h, hk => by
    have hP := h.fold hq (edges l F t) (fun e he => he)
    rw [← pass_fold] at hP
    have hge := fold_ge (edges l F t) G fun e he => (hq.lt e he).2
    rw [← pass_fold] at hge
    rw [searchN]
    by_cases hs : sameB G (passF l F t G) = true
    · rw [if_pos hs]
      have hsm : ∀ j, j < 62 → passF l F t G j = G j := fun j hj => by
        have := List.all_eq_true.1 hs j (List.mem_range.2 hj)
        simpa using this
      have := fold_same (edges l F t) G hq.lt (by rw [← pass_fold]; exact hsm)
      rw [← pass_fold] at this
      refine ⟨_, rfl, hP, ?_⟩
      rw [this.1]
      exact this.2
    · rw [if_neg hs]
      have hex : ∃ i, i < 62 ∧ G i < passF l F t G i := by
        apply Classical.byContradiction
        intro hn
        apply hs
        unfold sameB
        rw [List.all_eq_true]
        intro i hi
        have h1 := hge i (List.mem_range.1 hi)
        have h2 : ¬ G i < passF l F t G i := fun hh => hn ⟨i, List.mem_range.1 hi, hh⟩
        simp only [beq_iff_eq]
        omega
      obtain ⟨i, hi, hlt⟩ := hex
      have := totG_lt hi hge hlt
      exact search_go hq k hP (by omega)
/-- a search comes to an end -/
theorem search_ok {l : List Int} {F : Nat → Nat → Int} {t : List Int} {q : Nat → Int} (hq : Pot (edges l F t) q) (k : Nat) (hk : 70000 ≤ k) :
    ∃ G, searchN l F t k startG = some G ∧ SInv (edges l F t) q G ∧ Sat (edges l F t) G :=
  search_go hq k (start_inv hq) (by rw [totG_start 61 (by omega)]; omega)
theorem Chain.unique {G : Nat → Int} {x k : Nat} (h : Chain G x k) : ∀ {k'}, Chain G x k' → k = k' := by
  induction h with
  | root =>
    intro k' h'
    cases h' with
    | root => rfl
    | step h0 _ _ _ => exact absurd rfl h0
  | step h0 _ _ _ ih =>
    intro k' h'
    cases h' with
    | root => exact absurd rfl h0
    | step _ _ _ h2 => rw [ih h2]
end Go.Proofs.Ytmfonbonfhngnaa.Hand

/- A pocket more is used along a longest way: what flows stays whole, and no step rises above the numbers of the search. -/
namespace Go.Proofs.Ytmfonbonfhngnaa.Hand
set_option linter.unusedVariables false
set_option linter.unusedSimpArgs false
open Go.RowKit Go.Proofs.YtmfonbonfhngnaaW.PrintWords
set_option linter.unusedVariables false
set_option linter.unusedSimpArgs false

theorem totG_congr {f g : Nat → Int} : ∀ {k : Nat}, (∀ j, j < k → f j = g j) → totG k f = totG k g
  | 0, _ => rfl
  | k + 1, h => by rw [totG, totG, totG_congr fun j hj => h j (by omega), h k (by omega)]
theorem totG_one {f g : Nat → Int} {i : Nat} : ∀ {k : Nat}, i < k → (∀ j, j < k → j ≠ i → g j = f j) → totG k g = totG k f + (g i - f i)
  | 0, hi, _ => by omega
  | k + 1, hi, h => by
    by_cases e : i = k
    · subst e
      rw [totG, totG, totG_congr (f := g) (g := f) (k := i) fun j hj => h j (by omega) (by omega)]
      omega
    · have h1 := totG_one (f := f) (g := g) (i := i) (k := k) (by omega) fun j hj hn => h j (by omega) hn
      have h2 := h k (by omega) (Ne.symm e)
      rw [totG, totG, h1, h2]
      omega
theorem totG_zero : ∀ k : Nat, totG k (fun _ => 0) = 0
  | 0 => rfl
  | k + 1 => by rw [totG, totG_zero k]; rfl
theorem totG_add (f g : Nat → Int) : ∀ k : Nat, totG k (fun j => f j + g j) = totG k f + totG k g
  | 0 => rfl
  | k + 1 => by rw [totG, totG, totG, totG_add f g k]; omega
theorem totG_nonneg {f : Nat → Int} : ∀ {k : Nat}, (∀ j, j < k → 0 ≤ f j) → 0 ≤ totG k f
  | 0, _ => Int.le_refl _
  | k + 1, h => by
    have h1 := totG_nonneg (k := k) fun j hj => h j (by omega)
    have h2 := h k (by omega)
    rw [totG]; omega
theorem totG_mem {f : Nat → Int} {i : Nat} : ∀ {k : Nat}, i < k → (∀ j, j < k → 0 ≤ f j) → f i ≤ totG k f
  | 0, hi, _ => by omega
  | k + 1, hi, h => by
    rw [totG]
    by_cases e : i = k
    · subst e
      have := totG_nonneg (k := i) fun j hj => h j (by omega)
      omega
    · have := totG_mem (f := f) (i := i) (k := k) (by omega) fun j hj => h j (by omega)
      have := h k (by omega)
      omega

/-- what flows, weighed by numbers at the nodes -/
def flowW (F : Nat → Nat → Int) (φ : Nat → Int) : Int := totG 62 fun x => totG 62 fun y => (φ x - φ y) * F x y
def logW (t : List Int) (φ : Nat → Int) : Int := totG t.length fun i => (φ (2 * i + 2) - φ (2 * i + 3)) * rd t (i : Nat)
theorem flowW_upd (F : Nat → Nat → Int) (φ : Nat → Int) {u v : Nat} (hu : u < 62) (hv : v < 62) (d : Int) : flowW (updF F u v (F u v + d)) φ = flowW F φ + (φ u - φ v) * d := by
  unfold flowW
  rw [totG_one (f := fun x => totG 62 fun y => (φ x - φ y) * F x y) hu]
  · congr 1
    (try simp only)
    rw [totG_one (f := fun y => (φ u - φ y) * F u y) hv]
    · simp only [updF, and_self, if_true]
      rw [Int.mul_add]; omega
    · intro j _ hj
      simp only [updF, hj, and_false, if_false]
  · intro j _ hj
    refine totG_congr fun y _ => ?_
    simp only [updF, hj, false_and, if_false]
theorem rd_set_same (t : List Int) {i : Nat} (h : i < t.length) (x : Int) : rd (t.set i x) (i : Nat) = x := by simp [rd, h]
theorem rd_set_other (t : List Int) {i j : Nat} (h : j ≠ i) (x : Int) : rd (t.set i x) (j : Nat) = rd t (j : Nat) := by
  simp only [rd, Int.toNat_natCast, List.getD_eq_getElem?_getD]
  rw [List.getElem?_set_ne (Ne.symm h)]
theorem logW_set (t : List Int) (φ : Nat → Int) {i : Nat} (hi : i < t.length) (x : Int) : logW (t.set i x) φ = logW t φ + (φ (2 * i + 2) - φ (2 * i + 3)) * (x - rd t (i : Nat)) := by
  unfold logW
  rw [List.length_set, totG_one (f := fun i => (φ (2 * i + 2) - φ (2 * i + 3)) * rd t (i : Nat)) hi]
  · (try simp only)
    rw [rd_set_same t hi, Int.mul_sub]
  · intro j _ hj
    rw [rd_set_other t hj]
/-- how many logs are taken -/
def sumT (t : List Int) : Int := totG t.length fun i => rd t (i : Nat)
theorem sumT_set (t : List Int) {i : Nat} (hi : i < t.length) (x : Int) : sumT (t.set i x) = sumT t + (x - rd t (i : Nat)) := by
  unfold sumT
  rw [List.length_set, totG_one (f := fun i => rd t (i : Nat)) hi]
  · rw [rd_set_same t hi]
  · intro j _ hj
    rw [rd_set_other t hj]

/-- a net by which so many pockets are used -/
structure Fl (l : List Int) (F : Nat → Nat → Int) (t : List Int) : Prop where
  len : t.length = l.length
  bit : ∀ i, i < t.length → rd t (i : Nat) = 0 ∨ rd t (i : Nat) = 1
  pos : ∀ x y, 0 ≤ F x y
  link : ∀ x y, 0 < F x y → (x, y) ∈ linksL l
structure St (l : List Int) (F : Nat → Nat → Int) (t : List Int) (p : Int) : Prop extends Fl l F t where
  flow : ∀ φ, flowW F φ + logW t φ = p * (φ 0 - φ 1)

theorem updF_cases {F : Nat → Nat → Int} {u v : Nat} {d : Int} (x y : Nat) : (x = u ∧ y = v ∧ updF F u v d x y = d) ∨ (¬ (x = u ∧ y = v) ∧ updF F u v d x y = F x y) := by
  unfold updF
  by_cases h : x = u ∧ y = v
  · exact .inl ⟨h.1, h.2, by rw [if_pos h]⟩
  · exact .inr ⟨h, by rw [if_neg h]⟩
theorem Fl.inc {l : List Int} {F : Nat → Nat → Int} {t : List Int} (h : Fl l F t) {u v : Nat} (hl : (u, v) ∈ linksL l) : Fl l (updF F u v (F u v + 1)) t := by
  refine ⟨h.len, h.bit, fun x y => ?_, fun x y hx => ?_⟩
  · have := h.pos x y
    rcases updF_cases (F := F) (u := u) (v := v) (d := F u v + 1) x y with ⟨rfl, rfl, e⟩ | ⟨_, e⟩ <;> rw [e] <;> omega
  · rcases updF_cases (F := F) (u := u) (v := v) (d := F u v + 1) x y with ⟨rfl, rfl, e⟩ | ⟨_, e⟩
    · exact hl
    · rw [e] at hx; exact h.link x y hx
theorem Fl.dec {l : List Int} {F : Nat → Nat → Int} {t : List Int} (h : Fl l F t) {u v : Nat} (hp : 0 < F u v) : Fl l (updF F u v (F u v - 1)) t := by
  refine ⟨h.len, h.bit, fun x y => ?_, fun x y hx => ?_⟩
  · have := h.pos x y
    rcases updF_cases (F := F) (u := u) (v := v) (d := F u v - 1) x y with ⟨rfl, rfl, e⟩ | ⟨_, e⟩ <;> rw [e] <;> omega
  · rcases updF_cases (F := F) (u := u) (v := v) (d := F u v - 1) x y with ⟨rfl, rfl, e⟩ | ⟨_, e⟩
    · exact h.link _ _ hp
    · rw [e] at hx; exact h.link x y hx
theorem Fl.set {l : List Int} {F : Nat → Nat → Int} {t : List Int} (h : Fl l F t) {i : Nat} (hi : i < t.length) {x : Int} (hx : x = 0 ∨ x = 1) : Fl l F (t.set i x) := by
  refine ⟨by rw [List.length_set]; exact h.len, fun j hj => ?_, h.pos, h.link⟩
  rw [List.length_set] at hj
  by_cases e : j = i
  · subst e; rw [rd_set_same t hi]; exact hx
  · rw [rd_set_other t e]; exact h.bit j hj

theorem Pot.inc {l : List Int} {F : Nat → Nat → Int} {t : List Int} {q : Nat → Int} (h : Pot (edges l F t) q) {u v : Nat} (hu : u < 62) (hv : v < 62) (he : q v ≤ q u) (d : Int) : Pot (edges l (updF F u v d) t) q := by
  have key : ∀ e ∈ edges l (updF F u v d) t, e ∈ edges l F t ∨ e = ⟨v, u, 0, 0⟩ := by
    intro e he
    rw [mem_edges] at he ⊢
    rcases he with ⟨x, hx, rfl⟩ | ⟨x, hx, hf, rfl⟩ | ⟨i, hi, rfl⟩
    · exact .inl (.inl ⟨x, hx, rfl⟩)
    · rcases updF_cases (F := F) (u := u) (v := v) (d := d) x.1 x.2 with ⟨e1, e2, _⟩ | ⟨_, e⟩
      · right; rw [e1, e2]
      · rw [e] at hf; exact .inl (.inr (.inl ⟨x, hx, hf, rfl⟩))
    · exact .inl (.inr (.inr ⟨i, hi, rfl⟩))
  refine ⟨h.zero, fun e he => ?_, fun e he => ?_, h.top⟩
  · rcases key e he with h1 | rfl
    · exact h.lt e h1
    · exact ⟨hv, hu⟩
  · rcases key e he with h1 | rfl
    · exact h.step e h1
    · show q v + 0 ≤ q u
      omega
theorem Pot.dec {l : List Int} {F : Nat → Nat → Int} {t : List Int} {q : Nat → Int} (h : Pot (edges l F t) q) {u v : Nat} (hp : 0 < F u v) (d : Int) : Pot (edges l (updF F u v d) t) q := by
  have key : ∀ e ∈ edges l (updF F u v d) t, e ∈ edges l F t := by
    intro e he
    rw [mem_edges] at he ⊢
    rcases he with ⟨x, hx, rfl⟩ | ⟨x, hx, hf, rfl⟩ | ⟨i, hi, rfl⟩
    · exact .inl ⟨x, hx, rfl⟩
    · rcases updF_cases (F := F) (u := u) (v := v) (d := d) x.1 x.2 with ⟨e1, e2, _⟩ | ⟨_, e⟩
      · exact .inr (.inl ⟨x, hx, by rw [e1, e2]; exact hp, rfl⟩)
      · rw [e] at hf; exact .inr (.inl ⟨x, hx, hf, rfl⟩)
    · exact .inr (.inr ⟨i, hi, rfl⟩)
  exact ⟨h.zero, fun e he => h.lt e (key e he), fun e he => h.step e (key e he), h.top⟩
theorem Pot.set {l : List Int} {F : Nat → Nat → Int} {t : List Int} {q : Nat → Int} (h : Pot (edges l F t) q) {i : Nat} (hi : 2 * i + 3 < 62) {x : Int} (he : if x = 0 then q (2 * i + 2) + 1 ≤ q (2 * i + 3) else q (2 * i + 3) ≤ q (2 * i + 2) + 1) : Pot (edges l F (t.set i x)) q := by
  have key : ∀ e ∈ edges l F (t.set i x), e ∈ edges l F t ∨ e = (if x = 0 then ⟨2 * i + 2, 2 * i + 3, 1, 1⟩ else ⟨2 * i + 3, 2 * i + 2, -1, -1⟩) := by
    intro e he
    rw [mem_edges] at he ⊢
    rcases he with ⟨x, hx, rfl⟩ | ⟨x, hx, hf, rfl⟩ | ⟨j, hj, rfl⟩
    · exact .inl (.inl ⟨x, hx, rfl⟩)
    · exact .inl (.inr (.inl ⟨x, hx, hf, rfl⟩))
    · rw [List.length_set] at hj
      by_cases e : j = i
      · subst e
        right
        unfold logE
        rw [rd_set_same t hj]
      · left; right; right
        refine ⟨j, hj, ?_⟩
        unfold logE
        rw [rd_set_other t e]
  refine ⟨h.zero, fun e he => ?_, fun e hm => ?_, h.top⟩
  · rcases key e he with h1 | rfl
    · exact h.lt e h1
    · split <;> simp only <;> omega
  · rcases key e hm with h1 | rfl
    · exact h.step e h1
    · split
      · rename_i hx; rw [if_pos hx] at he; exact he
      · rename_i hx; rw [if_neg hx] at he; simp only; omega

/-- the search's numbers are such, above which no step rises -/
theorem Sat.net {l : List Int} {F : Nat → Nat → Int} {t : List Int} {q G : Nat → Int} (hS : Sat (edges l F t) G) (hi : SInv (edges l F t) q G) {i : Nat} (h : i < l.length) : 0 ≤ G (2 * i + 2) ∧ G (2 * i + 2) ≤ G (2 * i + 3) ∧ G (2 * i + 3) ≤ G 1 := by
  have m1 : (⟨0, 2 * i + 2, 0, 0⟩ : Edge) ∈ edges l F t := mem_edges.2 (.inl ⟨(0, 2 * i + 2), mem_links.2 ⟨i, h, .inl ⟨rfl, rfl⟩⟩, rfl⟩)
  have m2 : (⟨2 * i + 2, 2 * i + 3, 0, 0⟩ : Edge) ∈ edges l F t := mem_edges.2 (.inl ⟨(2 * i + 2, 2 * i + 3), mem_links.2 ⟨i, h, .inr (.inl ⟨rfl, rfl⟩)⟩, rfl⟩)
  have m3 : (⟨2 * i + 3, 1, 0, 0⟩ : Edge) ∈ edges l F t := mem_edges.2 (.inl ⟨(2 * i + 3, 1), mem_links.2 ⟨i, h, .inr (.inr (.inl ⟨rfl, rfl⟩))⟩, rfl⟩)
  have h0 := hi.zero
  have s1 := hS _ m1
  have s2 := hS _ m2
  have s3 := hS _ m3
  simp only [farI] at s1 s2 s3
  have := s1 (by omega)
  have := s2 (by omega)
  have := s3 (by omega)
  omega
theorem Sat.from {l : List Int} {F : Nat → Nat → Int} {t : List Int} {q G : Nat → Int} (hS : Sat (edges l F t) G) (hi : SInv (edges l F t) q G) (ht : t.length = l.length) : ∀ e ∈ edges l F t, farI < G e.u := by
  have hfar : farI < 0 := by unfold farI; omega
  have lk : ∀ x ∈ linksL l, 0 ≤ G x.1 ∧ 0 ≤ G x.2 := by
    rintro ⟨a, b⟩ hx
    obtain ⟨i, h, hx⟩ := mem_links.1 hx
    have h0 := hi.zero
    obtain ⟨n1, n2, n3⟩ := hS.net hi h
    rcases hx with ⟨rfl, rfl⟩ | ⟨rfl, rfl⟩ | ⟨rfl, rfl⟩ | ⟨j, h1, h2, h3, rfl, rfl⟩
    · exact ⟨by rw [h0]; exact Int.le_refl _, n1⟩
    · exact ⟨n1, by simp only; omega⟩
    · exact ⟨by simp only; omega, by simp only; omega⟩
    · obtain ⟨k1, _, _⟩ := hS.net hi h2
      exact ⟨by simp only; omega, k1⟩
  intro e he
  rcases mem_edges.1 he with ⟨x, hx, rfl⟩ | ⟨x, hx, hf, rfl⟩ | ⟨i, h, rfl⟩
  · have := (lk x hx).1; simp only; omega
  · have := (lk x hx).2; simp only; omega
  · rw [ht] at h
    obtain ⟨n1, n2, n3⟩ := hS.net hi h
    unfold logE
    split <;> simp only <;> omega
theorem Sat.pot {l : List Int} {F : Nat → Nat → Int} {t : List Int} {q G : Nat → Int} (hS : Sat (edges l F t) G) (hq : Pot (edges l F t) q) (hi : SInv (edges l F t) q G) (ht : t.length = l.length) : Pot (edges l F t) G := by
  refine ⟨hi.zero, hq.lt, fun e he => hS e he (hS.from hi ht e he), fun v hv => ?_⟩
  by_cases hf : farI < G v
  · exact Int.le_trans (hi.up v hv hf) (hq.top v hv)
  · unfold farI at hf; omega

/-- nodes up to so many steps from the beginning are as they were -/
def Agree (G : Nat → Int) (F F' : Nat → Nat → Int) (t t' : List Int) (k : Nat) : Prop := ∀ x y i j, Chain G x i → Chain G y j → i ≤ k → j ≤ k → F' x y = F x y ∧ ∀ m, x = 2 * m + 2 → y = 2 * m + 3 → rd t' (m : Nat) = rd t (m : Nat)
theorem Agree.updF {G : Nat → Int} {F F' : Nat → Nat → Int} {t t' : List Int} {k v : Nat} (h : Agree G F F' t t' (k + 1)) (hv : Chain G v (k + 1)) {a b : Nat} (hab : a = v ∨ b = v) (d : Int) : Agree G F (updF F' a b d) t t' k := by
  intro x y i j hx hy hi hj
  obtain ⟨h1, h2⟩ := h x y i j hx hy (by omega) (by omega)
  refine ⟨?_, h2⟩
  rcases updF_cases (F := F') (u := a) (v := b) (d := d) x y with ⟨e1, e2, _⟩ | ⟨_, e⟩
  · rcases hab with rfl | rfl
    · rw [e1] at hx; have := hx.unique hv; omega
    · rw [e2] at hy; have := hy.unique hv; omega
  · rw [e]; exact h1
theorem Agree.set {G : Nat → Int} {F F' : Nat → Nat → Int} {t t' : List Int} {k v : Nat} (h : Agree G F F' t t' (k + 1)) (hv : Chain G v (k + 1)) {m : Nat} (hm : v = 2 * m + 2 ∨ v = 2 * m + 3) (d : Int) : Agree G F F' t (t'.set m d) k := by
  intro x y i j hx hy hi hj
  obtain ⟨h1, h2⟩ := h x y i j hx hy (by omega) (by omega)
  refine ⟨h1, fun m' e1 e2 => ?_⟩
  by_cases e : m' = m
  · subst e
    rcases hm with e | e
    · rw [e1, ← e] at hx; have := hx.unique hv; omega
    · rw [e2, ← e] at hy; have := hy.unique hv; omega
  · rw [rd_set_other t' e]; exact h2 m' e1 e2
/-- the steps of a way, from its end on -/
theorem way_go {l : List Int} {F : Nat → Nat → Int} {t : List Int} {q G : Nat → Int} {p : Int} (hq : Pot (edges l F t) q) (hi : SInv (edges l F t) q G) (hS : Sat (edges l F t) G) (ht : t.length = l.length) (hb : ∀ i, i < t.length → rd t (i : Nat) = 0 ∨ rd t (i : Nat) = 1) (k : Nat) :
    ∀ (v fuel : Nat) {F' : Nat → Nat → Int} {t' : List Int}, Chain G v k → k ≤ fuel → v < 62 → farI < G v → Fl l F' t' → Pot (edges l F' t') G → Agree G F F' t t' k → (∀ φ, flowW F' φ + logW t' φ = p * (φ 0 - φ 1) + (φ v - φ 1)) →
      ∃ F2 t2, wayN G fuel v F' t' = some (F2, t2) ∧ Fl l F2 t2 ∧ Pot (edges l F2 t2) G ∧ (∀ φ, flowW F2 φ + logW t2 φ = p * (φ 0 - φ 1) + (φ 0 - φ 1)) ∧ sumT t2 = sumT t' + G v := by
  induction k with
  | zero =>
    intro v fuel F' t' hc hf hv hfv hF hP hA hW
    cases hc
    refine ⟨F', t', by cases fuel <;> rfl, hF, hP, hW, ?_⟩
    rw [hi.zero]; omega
  | succ k ih =>
    intro v fuel F' t' hc hf hv hfv hF hP hA hW
    obtain ⟨fuel, rfl⟩ : ∃ f, fuel = f + 1 := ⟨fuel - 1, by omega⟩
    have hc' := hc
    cases hc with
    | step hv0 _ hb0 hcu =>
    obtain ⟨e, he, rfl, p1, p2, p3, p4⟩ := hi.pre v hv hv0 hfv
    have hsat := hS e he p3
    obtain ⟨hu, _⟩ := hq.lt e he
    rw [p1, Int.toNat_natCast] at hcu
    obtain ⟨w, hw⟩ : ∃ w, e.v = w + 1 := ⟨e.v - 1, by omega⟩
    have hcond : e.v < 62 ∧ 0 ≤ G (62 + e.v) ∧ G (62 + e.v) < 62 := ⟨hv, by rw [p1]; omega, by rw [p1]; omega⟩
    have hstep : wayN G (fuel + 1) e.v F' t' = (if e.o = 0 then wayN G fuel e.u (useF F' e.u e.v) t'
      else if 0 < e.o then
        if 2 ≤ e.u ∧ e.u % 2 = 0 ∧ e.u / 2 - 1 < t'.length then wayN G fuel e.u F' (t'.set (e.u / 2 - 1) 1) else none
      else if 2 ≤ e.v ∧ e.v % 2 = 0 ∧ e.v / 2 - 1 < t'.length then wayN G fuel e.u F' (t'.set (e.v / 2 - 1) 0) else none) := by
      rw [hw] at hcond p1 p2 ⊢
      rw [wayN, if_pos hcond, p2, p1, Int.toNat_natCast]
    rw [hstep]
    clear hstep hcond hw
    obtain ⟨a1, a2⟩ := hA e.v e.u (k + 1) k hc' hcu (by omega) (by omega)
    obtain ⟨b1, b2⟩ := hA e.u e.v k (k + 1) hcu hc' (by omega) (by omega)
    have hGe : G e.v = G e.u + e.g := by omega
    -- a step over a link, either way
    have link : e.g = 0 → ((e.u, e.v) ∈ linksL l ∨ 0 < F' e.v e.u) → ∃ F2 t2, wayN G fuel e.u (useF F' e.u e.v) t' = some (F2, t2) ∧ Fl l F2 t2 ∧ Pot (edges l F2 t2) G ∧ (∀ φ, flowW F2 φ + logW t2 φ = p * (φ 0 - φ 1) + (φ 0 - φ 1)) ∧ sumT t2 = sumT t' + G e.v := by
      intro hg0 hlk
      unfold useF
      by_cases hd : 0 < F' e.v e.u
      · rw [if_pos hd]
        obtain ⟨F2, t2, r1, r2, r3, r4, r5⟩ := ih e.u fuel hcu (by omega) hu p3 (hF.dec hd) (hP.dec hd _) (hA.updF hc' (.inl rfl) _) (fun φ => by
          have := hW φ
          rw [Int.sub_eq_add_neg, flowW_upd F' φ hv hu]
          simp only [Int.mul_neg, Int.mul_one]
          omega)
        exact ⟨F2, t2, r1, r2, r3, r4, by omega⟩
      · rw [if_neg hd]
        have hl : (e.u, e.v) ∈ linksL l := by
          rcases hlk with h | h
          · exact h
          · exact absurd h hd
        obtain ⟨F2, t2, r1, r2, r3, r4, r5⟩ := ih e.u fuel hcu (by omega) hu p3 (hF.inc hl) (hP.inc hu hv (by omega) _) (hA.updF hc' (.inr rfl) _) (fun φ => by
          have := hW φ
          rw [flowW_upd F' φ hu hv, Int.mul_one]
          omega)
        exact ⟨F2, t2, r1, r2, r3, r4, by omega⟩
    rcases mem_edges.1 he with ⟨x, hx, rfl⟩ | ⟨x, hx, hfx, rfl⟩ | ⟨i, him, hei⟩
    · rw [if_pos rfl]
      exact link rfl (.inl hx)
    · rw [if_pos rfl]
      exact link rfl (.inr (by rw [a1]; exact hfx))
    · clear link
      have it : i < t'.length := by rw [hF.len, ← ht]; exact him
      unfold logE at hei
      rcases hb i him with hz | hz
      · rw [if_pos hz] at hei
        subst hei
        simp only at *
        have e1 : (2 * i + 2) / 2 - 1 = i := by omega
        rw [if_neg (by decide), if_pos (by decide), if_pos ⟨by omega, by omega, by rw [e1]; exact it⟩, e1]
        have ht0 : rd t' (i : Nat) = 0 := by rw [b2 i rfl rfl, hz]
        obtain ⟨F2, t2, r1, r2, r3, r4, r5⟩ := ih (2 * i + 2) fuel hcu (by omega) hu p3 (hF.set it (x := 1) (.inr rfl)) (hP.set (x := 1) hv (by rw [if_neg (by decide)]; omega)) (hA.set hc' (.inr rfl) _) (fun φ => by
          have := hW φ
          rw [logW_set t' φ it, ht0, Int.sub_zero, Int.mul_one]
          omega)
        rw [sumT_set t' it, ht0] at r5
        exact ⟨F2, t2, r1, r2, r3, r4, by omega⟩
      · rw [if_neg (by rw [hz]; decide)] at hei
        subst hei
        simp only at *
        have e1 : (2 * i + 2) / 2 - 1 = i := by omega
        rw [if_neg (by decide), if_neg (by decide), if_pos ⟨by omega, by omega, by rw [e1]; exact it⟩, e1]
        have ht0 : rd t' (i : Nat) = 1 := by rw [a2 i rfl rfl, hz]
        obtain ⟨F2, t2, r1, r2, r3, r4, r5⟩ := ih (2 * i + 3) fuel hcu (by omega) hu p3 (hF.set it (x := 0) (.inl rfl)) (hP.set (x := 0) hu (by rw [if_pos rfl]; omega)) (hA.set hc' (.inl rfl) _) (fun φ => by
          have := hW φ
          rw [logW_set t' φ it, ht0]
          simp only [Int.zero_sub, Int.mul_neg, Int.mul_one]
          omega)
        rw [sumT_set t' it, ht0] at r5
        exact ⟨F2, t2, r1, r2, r3, r4, by omega⟩
/-- different numbers below a bound are no more than it -/
theorem nodup_len : ∀ (n : Nat) (L : List Nat), L.Nodup → (∀ y ∈ L, y < n) → L.length ≤ n
  | 0, L, _, h => by
    cases L with
    | nil => exact Nat.le_refl _
    | cons a L => exact absurd (h a List.mem_cons_self) (Nat.not_lt_zero _)
  | n + 1, L, hd, h => by
    have h1 := nodup_len n (L.erase n) (hd.erase n) (fun y hy => by
      have h2 := (hd.mem_erase_iff).1 hy
      have := h y h2.2
      omega)
    have h3 := List.length_erase (a := n) (l := L)
    split at h3 <;> omega
theorem Chain.nodes {G : Nat → Int} {x k : Nat} (h : Chain G x k) : ∃ L : List Nat, L.length = k + 1 ∧ L.Nodup ∧ ∀ y ∈ L, y < 62 ∧ ∃ j, j ≤ k ∧ Chain G y j := by
  induction h with
  | root => exact ⟨[0], rfl, by simp, fun y hy => by
      have : y = 0 := by simpa using hy
      subst this
      exact ⟨by omega, 0, Nat.le_refl _, .root⟩⟩
  | @step v k h0 hv hb hc ih =>
    obtain ⟨L, h1, h2, h3⟩ := ih
    refine ⟨v :: L, by simp [h1], List.nodup_cons.2 ⟨fun hm => ?_, h2⟩, fun y hy => ?_⟩
    · obtain ⟨_, j, hj, hcj⟩ := h3 v hm
      have := hcj.unique (.step h0 hv hb hc)
      omega
    · rcases List.mem_cons.1 hy with rfl | hy
      · exact ⟨hv, k + 1, Nat.le_refl _, .step h0 hv hb hc⟩
      · obtain ⟨g1, j, hj, hcj⟩ := h3 y hy
        exact ⟨g1, j, by omega, hcj⟩
theorem Chain.short {G : Nat → Int} {x k : Nat} (h : Chain G x k) : k ≤ 61 := by
  obtain ⟨L, h1, h2, h3⟩ := h.nodes
  have := nodup_len 62 L h2 fun y hy => (h3 y hy).1
  omega
/-- one pocket more -/
theorem way_ok {l : List Int} {F : Nat → Nat → Int} {t : List Int} {q G : Nat → Int} {p : Int} (hq : Pot (edges l F t) q) (hi : SInv (edges l F t) q G) (hS : Sat (edges l F t) G) (h : St l F t p) (hg : 0 < G 1) (k : Nat) (hk : 61 ≤ k) :
    ∃ F2 t2, wayN G k 1 F t = some (F2, t2) ∧ St l F2 t2 (p + 1) ∧ Pot (edges l F2 t2) G ∧ sumT t2 = sumT t + G 1 := by
  have hf : farI < G 1 := by unfold farI; omega
  obtain ⟨r, hr⟩ := hi.chain 1 (by omega) hf
  have := hr.short
  obtain ⟨F2, t2, r1, r2, r3, r4, r5⟩ := way_go (p := p) hq hi hS h.len h.bit r 1 k hr (by omega) (by omega) hf h.toFl (hS.pot hq hi h.len) (fun x y i j _ _ _ _ => ⟨rfl, fun _ _ _ => rfl⟩) (fun φ => by have := h.flow φ; omega)
  exact ⟨F2, t2, r1, ⟨r2, fun φ => by rw [r4 φ, Int.add_mul, Int.one_mul]⟩, r3, r5⟩
end Go.Proofs.Ytmfonbonfhngnaa.Hand

/- No pockets take more logs than a net with numbers above which no step rises. -/
namespace Go.Proofs.Ytmfonbonfhngnaa.Hand
set_option linter.unusedVariables false
set_option linter.unusedSimpArgs false
open Go.RowKit Go.Proofs.YtmfonbonfhngnaaW.PrintWords
set_option linter.unusedVariables false
set_option linter.unusedSimpArgs false

/-- what such numbers say of the logs -/
structure PotL (l : List Int) (F : Nat → Nat → Int) (t : List Int) (q : Nat → Int) : Prop where
  zero : q 0 = 0
  ge : ∀ i, i < l.length → 0 ≤ q (2 * i + 2) ∧ q (2 * i + 2) ≤ q (2 * i + 3) ∧ q (2 * i + 3) ≤ q 1
  next : ∀ i j, i < j → j < l.length → rd l (i : Nat) ≤ rd l (j : Nat) → q (2 * i + 3) ≤ q (2 * j + 2)
  left : ∀ i, i < l.length → rd t (i : Nat) = 0 → q (2 * i + 2) + 1 ≤ q (2 * i + 3)
  took : ∀ i, i < l.length → rd t (i : Nat) = 1 → q (2 * i + 3) ≤ q (2 * i + 2) + 1
  flow : ∀ x y, 0 < F x y → q x = q y
  top : q 1 ≤ 30
theorem Pot.logs {l : List Int} {F : Nat → Nat → Int} {t : List Int} {q : Nat → Int} (hF : Fl l F t) (h : Pot (edges l F t) q) : PotL l F t q := by
  have lk : ∀ {a b}, (a, b) ∈ linksL l → q a ≤ q b := fun {a b} hx => by
    have := h.step ⟨a, b, 0, 0⟩ (mem_edges.2 (.inl ⟨(a, b), hx, rfl⟩))
    simp only at this; omega
  have l1 : ∀ i, i < l.length → q 0 ≤ q (2 * i + 2) := fun i hi => lk (mem_links.2 ⟨i, hi, .inl ⟨rfl, rfl⟩⟩)
  have l2 : ∀ i, i < l.length → q (2 * i + 2) ≤ q (2 * i + 3) := fun i hi => lk (mem_links.2 ⟨i, hi, .inr (.inl ⟨rfl, rfl⟩)⟩)
  have l3 : ∀ i, i < l.length → q (2 * i + 3) ≤ q 1 := fun i hi => lk (mem_links.2 ⟨i, hi, .inr (.inr (.inl ⟨rfl, rfl⟩))⟩)
  refine ⟨h.zero, fun i hi => ⟨?_, l2 i hi, l3 i hi⟩, fun i j hij hj hr => lk (mem_links.2 ⟨i, by omega, .inr (.inr (.inr ⟨j, hij, hj, hr, rfl, rfl⟩))⟩), fun i hi hz => ?_, fun i hi hz => ?_, fun x y hxy => ?_, h.top 1 (by omega)⟩
  · have := l1 i hi
    have := h.zero
    omega
  · have := h.step (logE t i) (mem_edges.2 (.inr (.inr ⟨i, by rw [hF.len]; exact hi, rfl⟩)))
    unfold logE at this
    rw [if_pos hz] at this
    exact this
  · have := h.step (logE t i) (mem_edges.2 (.inr (.inr ⟨i, by rw [hF.len]; exact hi, rfl⟩)))
    unfold logE at this
    rw [if_neg (by rw [hz]; decide)] at this
    simp only at this; omega
  · have hm := hF.link x y hxy
    have h1 := lk hm
    have h2 := h.step ⟨y, x, 0, 0⟩ (mem_edges.2 (.inr (.inl ⟨(x, y), hm, hxy, rfl⟩)))
    simp only at h2; omega

/-- the run of a log: its level, or it alone -/
def tagQ (q : Nat → Int) (i : Nat) : Nat := if q (2 * i + 2) < q (2 * i + 3) then (q (2 * i + 2)).toNat else 31 + i
def tagged (l : List Int) (q : Nat → Int) : List (Int × Nat) := (List.range l.length).map fun i => (rd l (i : Nat), tagQ q i)
theorem rd_get (l : List Int) {i : Nat} (h : i < l.length) : rd l (i : Nat) = l[i] := by simp [rd, h]
theorem tagged_fst (l : List Int) (q : Nat → Int) : (tagged l q).map Prod.fst = l := by
  apply List.ext_getElem
  · simp [tagged]
  · intro i h1 h2
    simp only [tagged, List.map_map, List.getElem_map, List.getElem_range, Function.comp]
    exact rd_get l h2
theorem PotL.tag_lt {l : List Int} {F : Nat → Nat → Int} {t : List Int} {q : Nat → Int} (h : PotL l F t q) (hl : l.length ≤ 30) {i : Nat} (hi : i < l.length) : tagQ q i < 62 := by
  have h1 := h.ge i hi
  have h2 := h.top
  unfold tagQ
  split <;> omega
theorem range_pairwise (n : Nat) {R : Nat → Nat → Prop} (h : ∀ i j, i < j → j < n → R i j) : (List.range n).Pairwise R := by
  rw [List.pairwise_iff_getElem]
  intro i j hi hj hij
  simp only [List.getElem_range]
  exact h i j hij (by simpa using hj)
theorem PotL.tag_falls {l : List Int} {F : Nat → Nat → Int} {t : List Int} {q : Nat → Int} (h : PotL l F t q) (hl : l.length ≤ 30) {i j : Nat} (hij : i < j) (hj : j < l.length) (e : tagQ q i = tagQ q j) : rd l (j : Nat) < rd l (i : Nat) := by
  apply Classical.byContradiction
  intro hn
  have h1 := h.next i j hij hj (by omega)
  have h2 := h.ge i (by omega)
  have h3 := h.ge j hj
  have h4 := h.top
  unfold tagQ at e
  split at e <;> split at e <;> omega
theorem PotL.pairwise {l : List Int} {F : Nat → Nat → Int} {t : List Int} {q : Nat → Int} (h : PotL l F t q) (hl : l.length ≤ 30) : (tagged l q).Pairwise (fun x y => x.2 = y.2 → y.1 < x.1) := by
  unfold tagged
  rw [List.pairwise_map]
  exact range_pairwise _ fun i j hij hj e => h.tag_falls hl hij hj e

theorem sumF_tot (f : Nat → Nat) : ∀ n : Nat, ((sumF n f : Nat) : Int) = totG n fun j => (f j : Int)
  | 0 => rfl
  | n + 1 => by rw [sumF, totG, ← sumF_tot f n]; omega
theorem count_tot (P : Nat → Bool) : ∀ n : Nat, (((List.range n).countP P : Nat) : Int) = totG n fun i => if P i = true then 1 else 0
  | 0 => rfl
  | n + 1 => by
    rw [List.range_succ, List.countP_append, totG, ← count_tot P n]
    simp only [List.countP_cons, List.countP_nil]
    split <;> omega
theorem tot_pick (x : Int) {a : Nat} : ∀ {k : Nat}, a < k → totG k (fun j => if a = j then x else 0) = x
  | 0, h => by omega
  | k + 1, h => by
    rw [totG]
    by_cases e : a = k
    · subst e
      rw [totG_congr (g := fun _ => 0) (fun j hj => if_neg (by omega)), totG_zero, if_pos rfl]; omega
    · rw [tot_pick x (k := k) (by omega), if_neg e]; omega
theorem tot_swap (f : Nat → Int) (a : Nat → Nat) {m : Nat} : ∀ {n : Nat}, (∀ i, i < n → a i < m) → totG m (fun j => totG n fun i => if a i = j then f i else 0) = totG n f
  | 0, _ => by simp only [totG]; exact totG_zero m
  | n + 1, h => by
    have ih := tot_swap f a (m := m) (n := n) fun i hi => h i (by omega)
    simp only [totG]
    rw [totG_add, ih, tot_pick (f n) (h n (by omega))]
/-- how many logs with a tag are taken -/
def tookT (q : Nat → Int) (t : List Int) (j : Nat) : Int := totG t.length fun i => if tagQ q i = j then rd t (i : Nat) else 0
theorem cnt_tot (l : List Int) (q : Nat → Int) (j : Nat) : (cntT (tagged l q) j : Int) = totG l.length fun i => if tagQ q i = j then 1 else 0 := by
  unfold cntT tagged
  rw [List.countP_map, count_tot]
  refine totG_congr fun i _ => ?_
  simp only [Function.comp, beq_iff_eq]
/-- a level's logs that are taken are as many as pockets -/
theorem level_took {l : List Int} {F : Nat → Nat → Int} {t : List Int} {q : Nat → Int} {p : Int} (hs : St l F t p) (h : PotL l F t q) {j : Nat} (hj : (j : Int) < q 1) (hl : j < 31) : tookT q t j = p := by
  obtain ⟨φ, hφ⟩ : ∃ φ : Nat → Int, ∀ x, φ x = if q x ≤ (j : Int) then 1 else 0 := ⟨_, fun _ => rfl⟩
  have hW := hs.flow φ
  rw [hφ 0, hφ 1, if_pos (by rw [h.zero]; omega), if_neg (by omega)] at hW
  have h0 : flowW F φ = 0 := by
    unfold flowW
    rw [totG_congr (g := fun _ => 0) fun x _ => ?_, totG_zero]
    rw [totG_congr (g := fun _ => 0) fun y _ => ?_, totG_zero]
    by_cases hf : 0 < F x y
    · have : φ x = φ y := by rw [hφ, hφ, h.flow x y hf]
      rw [this]; simp
    · have := hs.pos x y
      rw [show F x y = 0 by omega, Int.mul_zero]
  rw [h0, Int.zero_add] at hW
  have h1 : logW t φ = tookT q t j := by
    unfold logW tookT
    refine totG_congr fun i hi => ?_
    have hi' : i < l.length := by rw [← hs.len]; exact hi
    rcases hs.bit i hi with hz | hz
    · rw [hz]; simp
    · have h2 := h.took i hi' hz
      have h3 := h.ge i hi'
      rw [hz, hφ, hφ]
      unfold tagQ
      by_cases a : q (2 * i + 2) < q (2 * i + 3)
      · rw [if_pos a]
        by_cases b : (q (2 * i + 2)).toNat = j
        · rw [if_pos b, if_pos (by omega), if_neg (by omega)]; rfl
        · rw [if_neg b]
          by_cases c : q (2 * i + 2) ≤ (j : Int)
          · rw [if_pos c, if_pos (by omega)]; rfl
          · rw [if_neg c, if_neg (by omega)]; rfl
      · rw [if_neg a, if_neg (show ¬ 31 + i = j by omega), show q (2 * i + 2) = q (2 * i + 3) by omega]; simp
  omega
theorem tag_bound {l : List Int} {F : Nat → Nat → Int} {t : List Int} {q : Nat → Int} {p : Nat} (hs : St l F t p) (h : PotL l F t q) (hl : l.length ≤ 30) (j : Nat) : ((min p (cntT (tagged l q) j) : Nat) : Int) ≤ tookT q t j := by
  have hc := cnt_tot l q j
  have hnn : ∀ i, i < t.length → 0 ≤ (if tagQ q i = j then rd t (i : Nat) else 0) := fun i hi => by
    rcases hs.bit i hi with hz | hz <;> split <;> omega
  by_cases hex : ∃ i, i < l.length ∧ tagQ q i = j ∧ q (2 * i + 2) < q (2 * i + 3)
  · obtain ⟨i, hi, he, hq⟩ := hex
    have h1 := h.ge i hi
    have h2 := h.top
    unfold tagQ at he
    rw [if_pos hq] at he
    rw [level_took hs h (by omega) (by omega)]
    omega
  · have : (cntT (tagged l q) j : Int) = tookT q t j := by
      rw [hc]
      unfold tookT
      rw [hs.len]
      refine totG_congr fun i hi => ?_
      by_cases e : tagQ q i = j
      · rw [if_pos e, if_pos e]
        rcases hs.bit i (by rw [hs.len]; exact hi) with hz | hz
        · exact absurd ⟨i, hi, e, by have := h.left i hi hz; omega⟩ hex
        · exact hz.symm
      · rw [if_neg e, if_neg e]
    omega
/-- the bound of the levels is no more than what is taken -/
theorem levels_bound {l : List Int} {F : Nat → Nat → Int} {t : List Int} {q : Nat → Int} {p : Nat} (hs : St l F t p) (h : PotL l F t q) (hl : l.length ≤ 30) : ((sumF 62 fun j => min p (cntT (tagged l q) j) : Nat) : Int) ≤ sumT t := by
  rw [sumF_tot]
  refine Int.le_trans (totG_le fun j _ => tag_bound hs h hl j) ?_
  unfold tookT sumT
  rw [tot_swap (fun i => rd t (i : Nat)) (tagQ q) fun i hi => h.tag_lt hl (by rw [← hs.len]; exact hi)]
  exact Int.le_refl _
theorem cut {l : List Int} {F : Nat → Nat → Int} {t : List Int} {q : Nat → Int} {p : Nat} (hs : St l F t p) (h : PotL l F t q) (hl : l.length ≤ 30) {s : Nat → Int} {c : Nat} (hc : Can p s l c) : (c : Int) ≤ sumT t := by
  rw [← tagged_fst l q] at hc
  have := weak (J := 62) (h.pairwise hl) (fun x hx => by
    obtain ⟨i, hi, rfl⟩ := List.mem_map.1 hx
    exact h.tag_lt hl (List.mem_range.1 hi)) hc
  have := levels_bound hs h hl
  omega
end Go.Proofs.Ytmfonbonfhngnaa.Hand

/- A net's turning: each pocket's way, until nothing flows; all logs that are taken are turned. -/
namespace Go.Proofs.Ytmfonbonfhngnaa.Hand
set_option linter.unusedVariables false
set_option linter.unusedSimpArgs false
open Go.RowKit Go.Proofs.YtmfonbonfhngnaaW.PrintWords
set_option linter.unusedVariables false
set_option linter.unusedSimpArgs false

theorem nextTo_in (F : Nat → Nat → Int) (v : Nat) {y : Nat} (hy : 0 < F v y) : ∀ d b, b ≤ y → y < b + d → 0 < F v (nextTo F v d b)
  | 0, b, h1, h2 => by omega
  | d + 1, b, h1, h2 => by
    unfold nextTo
    split
    · assumption
    · refine nextTo_in F v hy d (b + 1) ?_ (by omega)
      by_cases e : b = y
      · subst e; contradiction
      · omega
theorem link_to {l : List Int} {x y : Nat} (h : (x, y) ∈ linksL l) : 1 ≤ y ∧ y < 2 * l.length + 2 ∧ x < 2 * l.length + 2 ∧ x ≠ 1 := by
  obtain ⟨i, hi, h⟩ := mem_links.1 h
  rcases h with ⟨rfl, rfl⟩ | ⟨rfl, rfl⟩ | ⟨rfl, rfl⟩ | ⟨j, h1, h2, h3, rfl, rfl⟩ <;> omega
/-- more flows into a node than out of it: not if nothing flows out -/
theorem out_of {l : List Int} {F : Nat → Nat → Int} {t : List Int} {v : Nat} (hF : Fl l F t) (hov : overB t v = false) (hv : v ≠ 1) (hW : ∀ φ : Nat → Int, (∀ x, x ≠ v → φ x = 0) → φ v = 1 → 0 < flowW F φ + logW t φ) : ∃ y, 0 < F v y := by
  apply Classical.byContradiction
  intro hn
  have h0 : ∀ y, F v y = 0 := fun y => by
    have h1 := hF.pos v y
    have h2 : ¬ 0 < F v y := fun h => hn ⟨y, h⟩
    omega
  obtain ⟨φ, hφ⟩ : ∃ φ : Nat → Int, ∀ x, φ x = if x = v then 1 else 0 := ⟨_, fun _ => rfl⟩
  have h := hW φ (fun x hx => by rw [hφ, if_neg hx]) (by rw [hφ, if_pos rfl])
  have f0 : flowW F φ ≤ 0 := by
    unfold flowW
    rw [← totG_zero 62]
    refine totG_le fun x _ => ?_
    rw [← totG_zero 62]
    refine totG_le fun y _ => ?_
    by_cases e : x = v
    · subst e; rw [h0 y]; simp
    · have h1 := hF.pos x y
      rw [hφ x, if_neg e, hφ y]
      split
      · omega
      · simp
  have l0 : logW t φ ≤ 0 := by
    unfold logW
    rw [← totG_zero t.length]
    refine totG_le fun i hi => ?_
    rw [hφ, hφ]
    rcases hF.bit i hi with hz | hz
    · rw [hz]; simp
    · rw [hz]
      by_cases e : 2 * i + 2 = v
      · exfalso
        subst e
        unfold overB at hov
        rw [show (2 * i + 2) / 2 - 1 = i by omega, hz] at hov
        simp at hov
      · rw [if_neg e]; split <;> omega
  omega

/-- where logs are turned -/
structure Put (l out : List Int) (p : Int) : Prop where
  len : out.length = l.length
  range : ∀ i, i < l.length → rd out (i : Nat) = -1 ∨ (0 ≤ rd out (i : Nat) ∧ rd out (i : Nat) < p)
  order : ∀ i j, i < j → j < l.length → 0 ≤ rd out (i : Nat) → rd out (i : Nat) = rd out (j : Nat) → rd l (i : Nat) ≤ rd l (j : Nat)
/-- how many logs are turned -/
def cntO (out : List Int) : Int := totG out.length fun i => if 0 ≤ rd out (i : Nat) then 1 else 0
theorem cntO_set (out : List Int) {i : Nat} (hi : i < out.length) {p : Int} (hp : 0 ≤ p) (h : rd out (i : Nat) = -1) : cntO (out.set i p) = cntO out + 1 := by
  unfold cntO
  rw [List.length_set, totG_one (f := fun i => if 0 ≤ rd out (i : Nat) then 1 else 0) hi]
  · (try simp only)
    rw [rd_set_same out hi, if_pos hp, h, if_neg (by omega)]; omega
  · intro j _ hj
    rw [rd_set_other out hj]
/-- what is so on the way -/
structure OnWay (l : List Int) (F : Nat → Nat → Int) (t out : List Int) (p r T : Int) (v : Nat) : Prop where
  fl : Fl l F t
  put : Put l out (p + 1)
  p0 : 0 ≤ p
  free : ∀ i, i < l.length → rd t (i : Nat) = 1 → rd out (i : Nat) = -1
  sum : cntO out + sumT t = T
  flow : ∀ φ : Nat → Int, flowW F φ + logW t φ = r * (φ 0 - φ 1) + (φ v - φ 1)
  start : v = 0 → ∀ j, j < l.length → rd out (j : Nat) ≠ p
  come : ∀ c, v = 2 * c + 2 → c < l.length ∧ ∀ j, j < l.length → rd out (j : Nat) = p → j < c ∧ rd l (j : Nat) ≤ rd l (c : Nat)
  gone : ∀ c, v = 2 * c + 3 → c < l.length ∧ ∀ j, j < l.length → rd out (j : Nat) = p → j ≤ c ∧ rd l (j : Nat) ≤ rd l (c : Nat)
theorem OnWay.move {l : List Int} {F : Nat → Nat → Int} {t out : List Int} {p r T : Int} {v nx : Nat} (h : OnWay l F t out p r T v) (hl : l.length ≤ 30) (hf : 0 < F v nx) : OnWay l (updF F v nx (F v nx - 1)) t out p r T nx := by
  have hk := h.fl.link v nx hf
  obtain ⟨b1, b2, b3, b4⟩ := link_to hk
  refine ⟨h.fl.dec hf, h.put, h.p0, h.free, h.sum, fun φ => ?_, fun e => by omega, fun c e => ?_, fun c e => ?_⟩
  · have := h.flow φ
    rw [Int.sub_eq_add_neg, flowW_upd F φ (by omega) (by omega)]
    simp only [Int.mul_neg, Int.mul_one]
    omega
  · subst e
    obtain ⟨i, hi, hk⟩ := mem_links.1 hk
    rcases hk with ⟨rfl, e2⟩ | ⟨rfl, e2⟩ | ⟨rfl, e2⟩ | ⟨j, h1, h2, h3, rfl, e2⟩
    · exact ⟨by omega, fun j hj hp => absurd hp (h.start rfl j hj)⟩
    · omega
    · omega
    · obtain rfl : j = c := by omega
      refine ⟨h2, fun k hk hp => ?_⟩
      obtain ⟨_, g⟩ := h.gone i rfl
      obtain ⟨g1, g2⟩ := g k hk hp
      exact ⟨by omega, by omega⟩
  · subst e
    obtain ⟨i, hi, hk⟩ := mem_links.1 hk
    rcases hk with ⟨rfl, e2⟩ | ⟨rfl, e2⟩ | ⟨rfl, e2⟩ | ⟨j, h1, h2, h3, rfl, e2⟩
    · omega
    · obtain rfl : i = c := by omega
      obtain ⟨g0, g⟩ := h.come i rfl
      refine ⟨g0, fun k hk hp => ?_⟩
      obtain ⟨g1, g2⟩ := g k hk hp
      exact ⟨by omega, g2⟩
    · omega
    · omega
theorem OnWay.over {l : List Int} {F : Nat → Nat → Int} {t out : List Int} {p r T : Int} {c : Nat} (h : OnWay l F t out p r T (2 * c + 2)) (ht : rd t (c : Nat) = 1) : OnWay l F (t.set c 0) (out.set c p) p r T (2 * c + 3) := by
  obtain ⟨hc, hcur⟩ := h.come c rfl
  have hct : c < t.length := by rw [h.fl.len]; exact hc
  have hco : c < out.length := by rw [h.put.len]; exact hc
  have hfree := h.free c hc ht
  refine ⟨h.fl.set hct (.inl rfl), ⟨by rw [List.length_set]; exact h.put.len, fun i hi => ?_, fun i j hij hj h0 he => ?_⟩, h.p0, fun i hi h1 => ?_, ?_, fun φ => ?_, fun e => by omega, fun c' e => by omega, fun c' e => ?_⟩
  · by_cases e : i = c
    · subst e
      rw [rd_set_same out hco]
      exact .inr ⟨h.p0, by omega⟩
    · rw [rd_set_other out e]; exact h.put.range i hi
  · by_cases e : i = c
    · subst e
      rw [rd_set_same out hco, rd_set_other out (by omega)] at he
      have := (hcur j hj he.symm).1
      omega
    · rw [rd_set_other out e] at h0 he
      by_cases e2 : j = c
      · subst e2
        rw [rd_set_same out hco] at he
        exact (hcur i (by omega) he).2
      · rw [rd_set_other out e2] at he
        exact h.put.order i j hij hj h0 he
  · by_cases e : i = c
    · subst e
      rw [rd_set_same t hct] at h1; omega
    · rw [rd_set_other t e] at h1
      rw [rd_set_other out e]; exact h.free i hi h1
  · rw [cntO_set out hco h.p0 hfree, sumT_set t hct, ht]
    have := h.sum
    omega
  · have := h.flow φ
    rw [logW_set t φ hct, ht]
    simp only [Int.zero_sub, Int.mul_neg, Int.mul_one]
    omega
  · obtain rfl : c = c' := by omega
    refine ⟨hc, fun k hk hp => ?_⟩
    by_cases e : k = c
    · subst e; exact ⟨Nat.le_refl _, Int.le_refl _⟩
    · rw [rd_set_other out e] at hp
      obtain ⟨g1, g2⟩ := hcur k hk hp
      exact ⟨by omega, g2⟩
/-- a node to which the way goes on -/
theorem OnWay.next {l : List Int} {F : Nat → Nat → Int} {t out : List Int} {p r T : Int} {v : Nat} (h : OnWay l F t out p r T v) (hr : 0 ≤ r) (hv : v ≠ 1) (ho : overB t v = false) : 0 < F v (nextF l.length F t v) := by
  obtain ⟨y, hy⟩ := out_of h.fl ho hv (fun φ h1 h2 => by
    rw [h.flow φ, h2, h1 1 (Ne.symm hv)]
    by_cases e : v = 0
    · subst e; rw [h2]; omega
    · rw [h1 0 (Ne.symm e)]; omega)
  have hk := link_to (h.fl.link v y hy)
  unfold nextF
  rw [ho]
  exact nextTo_in F v hy _ _ hk.1 (by omega)
theorem path_ok {l : List Int} {p r T : Int} (hl : l.length ≤ 30) (hr : 0 ≤ r) (k : Nat) : ∀ (v : Nat) {F : Nat → Nat → Int} {t out : List Int}, OnWay l F t out p r T v → v < 2 * l.length + 2 → (v = 1 ∨ 63 ≤ k + v) → ∃ F2 t2 out2, pathN l.length p k v F t out = some (F2, t2, out2) ∧ OnWay l F2 t2 out2 p r T 1 := by
  induction k with
  | zero =>
    intro v F t out h hv hk
    obtain rfl : v = 1 := by omega
    exact ⟨F, t, out, rfl, h⟩
  | succ k ih =>
    intro v F t out h hv hk
    by_cases h1 : v = 1
    · subst h1
      exact ⟨F, t, out, by rw [pathN, if_pos rfl], h⟩
    · rw [pathN, if_neg h1, if_pos hv]
      by_cases hf : 0 < F v (nextF l.length F t v)
      · rw [if_pos hf]
        have hm := h.move hl hf
        have hk2 := h.fl.link _ _ hf
        obtain ⟨b1, b2, b3, b4⟩ := link_to hk2
        refine ih _ hm b2 ?_
        obtain ⟨i, hi, hk2⟩ := mem_links.1 hk2
        rcases hk2 with ⟨e1, e2⟩ | ⟨e1, e2⟩ | ⟨e1, e2⟩ | ⟨j, g1, g2, g3, e1, e2⟩
        · right; omega
        · right; omega
        · left; exact e2
        · right; omega
      · rw [if_neg hf]
        cases ho : overB t v with
        | false => exact absurd (h.next hr h1 ho) hf
        | true =>
          unfold overB at ho
          simp only [Bool.and_eq_true, decide_eq_true_eq, beq_iff_eq] at ho
          obtain ⟨⟨g1, g2⟩, g3⟩ := ho
          obtain ⟨c, rfl⟩ : ∃ c, v = 2 * c + 2 := ⟨v / 2 - 1, by omega⟩
          have e1 : (2 * c + 2) / 2 - 1 = c := by omega
          rw [e1] at g3 ⊢
          obtain ⟨hc, _⟩ := h.come c rfl
          rw [if_pos ⟨by omega, by rw [h.put.len]; exact hc, by rw [h.fl.len]; exact hc⟩]
          exact ih _ (h.over g3) (by omega) (by omega)
/-- between two pockets -/
structure Pock (l : List Int) (F : Nat → Nat → Int) (t out : List Int) (p r T : Int) : Prop where
  st : St l F t r
  put : Put l out p
  p0 : 0 ≤ p
  free : ∀ i, i < l.length → rd t (i : Nat) = 1 → rd out (i : Nat) = -1
  sum : cntO out + sumT t = T
theorem Pock.way {l : List Int} {F : Nat → Nat → Int} {t out : List Int} {p r T : Int} (h : Pock l F t out p r T) : OnWay l F t out p (r - 1) T 0 := by
  refine ⟨h.st.toFl, ⟨h.put.len, fun i hi => ?_, h.put.order⟩, h.p0, h.free, h.sum, fun φ => ?_, fun _ j hj => ?_, fun c e => by omega, fun c e => by omega⟩
  · have := h.put.range i hi; omega
  · rw [h.st.flow φ, Int.sub_mul, Int.one_mul]; omega
  · have := h.put.range j hj
    have := h.p0
    omega
theorem OnWay.done {l : List Int} {F : Nat → Nat → Int} {t out : List Int} {p r T : Int} (h : OnWay l F t out p r T 1) : Pock l F t out (p + 1) r T :=
  ⟨⟨h.fl, fun φ => by have := h.flow φ; omega⟩, h.put, by have := h.p0; omega, h.free, h.sum⟩
/-- as much flows from the beginning as there are pockets -/
theorem St.start {l : List Int} {F : Nat → Nat → Int} {t : List Int} {r : Int} (h : St l F t r) : totG 62 (fun y => F 0 y) = r := by
  obtain ⟨φ, hφ⟩ : ∃ φ : Nat → Int, ∀ x, φ x = if x = 0 then 1 else 0 := ⟨_, fun _ => rfl⟩
  have hW := h.flow φ
  have l0 : logW t φ = 0 := by
    unfold logW
    rw [totG_congr (g := fun _ => 0) fun i _ => ?_, totG_zero]
    rw [hφ, hφ]; simp
  have hf : flowW F φ = totG 62 (fun y => F 0 y) := by
    unfold flowW
    rw [totG_congr (g := fun x => if 0 = x then totG 62 (fun y => F 0 y) else 0) fun x _ => ?_]
    · exact tot_pick _ (by omega)
    · by_cases e : 0 = x
      · subst e
        rw [if_pos rfl]
        refine totG_congr fun y _ => ?_
        rw [hφ, hφ, if_pos rfl]
        by_cases e : y = 0
        · subst e
          have : F 0 0 = 0 := by
            have h1 := h.pos 0 0
            by_cases hh : 0 < F 0 0
            · have := link_to (h.link _ _ hh); omega
            · omega
          rw [this]; simp
        · rw [if_neg e]; simp
      · rw [if_neg e, totG_congr (g := fun _ => 0) fun y _ => ?_, totG_zero]
        rw [hφ, hφ, if_neg (Ne.symm e)]
        by_cases e : y = 0
        · subst e
          have : F x 0 = 0 := by
            have h1 := h.pos x 0
            by_cases hh : 0 < F x 0
            · have := link_to (h.link _ _ hh); omega
            · omega
          rw [this]; simp
        · rw [if_neg e]; simp
  rw [l0, hf, hφ, hφ] at hW
  simpa using hW
theorem over0 (t : List Int) : overB t 0 = false := rfl
/-- nothing flows: no log is taken -/
theorem St.empty {l : List Int} {F : Nat → Nat → Int} {t : List Int} (h : St l F t 0) : sumT t = 0 := by
  obtain ⟨φ, hφ⟩ : ∃ φ : Nat → Int, ∀ x, φ x = if x = 1 then -100000 else -(x : Int) := ⟨_, fun _ => rfl⟩
  have hW := h.flow φ
  rw [Int.zero_mul] at hW
  have f0 : 0 ≤ flowW F φ := by
    unfold flowW
    refine totG_nonneg fun x hx => totG_nonneg fun y hy => ?_
    by_cases hf : 0 < F x y
    · have hk := h.link _ _ hf
      obtain ⟨i, hi, hk⟩ := mem_links.1 hk
      have : 0 ≤ φ x - φ y := by
        rw [hφ, hφ]
        rcases hk with ⟨e1, e2⟩ | ⟨e1, e2⟩ | ⟨e1, e2⟩ | ⟨j, g1, g2, g3, e1, e2⟩
        · rw [if_neg (by omega), if_neg (by omega)]; omega
        · rw [if_neg (by omega), if_neg (by omega)]; omega
        · rw [if_neg (by omega), if_pos e2]; omega
        · rw [if_neg (by omega), if_neg (by omega)]; omega
      exact Int.mul_nonneg this (by omega)
    · have := h.pos x y
      rw [show F x y = 0 by omega, Int.mul_zero]; exact Int.le_refl _
  have hl : logW t φ = sumT t := by
    unfold logW sumT
    refine totG_congr fun i hi => ?_
    rw [hφ, hφ, if_neg (by omega), if_neg (by omega)]
    rw [show (-(((2 * i + 2 : Nat)) : Int)) - (-((2 * i + 3 : Nat) : Int)) = 1 by omega, Int.one_mul]
  have hs : 0 ≤ sumT t := by
    unfold sumT
    refine totG_nonneg fun i hi => ?_
    rcases h.bit i hi with hz | hz <;> omega
  omega
theorem turn_ok {l : List Int} {T : Int} (hl : l.length ≤ 30) (kp : Nat) (hkp : 63 ≤ kp) (k : Nat) : ∀ (p : Nat) {F : Nat → Nat → Int} {t out : List Int} {r : Int}, Pock l F t out p r T → r < k → ∃ out2 p2, turnN l.length kp k p F t out = some out2 ∧ Put l out2 p2 ∧ p2 ≤ p + r ∧ cntO out2 = T := by
  induction k with
  | zero =>
    intro p F t out r h hk
    have := h.st.start
    have := totG_nonneg (k := 62) (f := fun y => F 0 y) fun y _ => h.st.pos 0 y
    omega
  | succ k ih =>
    intro p F t out r h hk
    have hs := h.st.start
    have hnn := totG_nonneg (k := 62) (f := fun y => F 0 y) fun y _ => h.st.pos 0 y
    rw [turnN]
    by_cases hf : 0 < F 0 (nextF l.length F t 0)
    · rw [if_pos hf]
      have hb := link_to (h.st.link _ _ hf)
      have := totG_mem (f := fun y => F 0 y) (i := nextF l.length F t 0) (k := 62) (by omega) fun y _ => h.st.pos 0 y
      (try simp only at this)
      obtain ⟨F2, t2, out2, e, h2⟩ := path_ok hl (by omega) kp 0 h.way (by omega) (by omega)
      rw [e, Option.bind_some]
      obtain ⟨out3, p3, g1, g2, g3, g4⟩ := ih (p + 1) h2.done (by omega)
      exact ⟨out3, p3, g1, g2, by omega, g4⟩
    · rw [if_neg hf]
      have hz : ∀ y, y < 62 → F 0 y = 0 := fun y hy => by
        have h1 := h.st.pos 0 y
        by_cases hp : 0 < F 0 y
        · exfalso
          apply hf
          unfold nextF
          rw [over0]
          have hb := link_to (h.st.link _ _ hp)
          exact nextTo_in F 0 hp _ _ hb.1 (by omega)
        · omega
      rw [totG_congr (g := fun _ => 0) hz, totG_zero] at hs
      subst hs
      have he := h.st.empty
      have := h.sum
      exact ⟨out, p, rfl, h.put, by omega, by omega⟩
/-- the turning that a net says: as many logs as are taken, into so many pockets -/
theorem turned {l : List Int} {F : Nat → Nat → Int} {t : List Int} {r : Int} (hl : l.length ≤ 30) (h : St l F t r) (hr : r ≤ 30) (kp k : Nat) (hkp : 63 ≤ kp) (hk : 31 ≤ k) : ∃ out, turnN l.length kp k 0 F t (List.replicate l.length (-1)) = some out ∧ Put l out r ∧ cntO out = sumT t := by
  have hm : ∀ i, i < l.length → rd (List.replicate l.length (-1)) (i : Nat) = -1 := fun i hi => by simp [rd, hi]
  have hz : cntO (List.replicate l.length (-1)) = 0 := by
    unfold cntO
    rw [List.length_replicate, totG_congr (g := fun _ => 0) fun i hi => by rw [hm i hi]; rfl, totG_zero]
  obtain ⟨out2, p2, e, h1, h2, h3⟩ := turn_ok (T := sumT t) hl kp hkp k 0 (F := F) (t := t) (out := List.replicate l.length (-1)) (r := r) ⟨h, ⟨by simp, fun i hi => .inl (hm i hi), fun i j hij hj h0 _ => by rw [hm i (by omega)] at h0; omega⟩, Int.le_refl _, fun i hi _ => hm i hi, by rw [hz]; omega⟩ (by omega)
  refine ⟨out2, e, ⟨h1.len, fun i hi => ?_, h1.order⟩, h3⟩
  have := h1.range i hi
  omega
end Go.Proofs.Ytmfonbonfhngnaa.Hand

/- What a net says of a row: as many logs as pockets can take, pocket by pocket the lines of the row's tableau. -/
namespace Go.Proofs.Ytmfonbonfhngnaa.Hand
set_option linter.unusedVariables false
set_option linter.unusedSimpArgs false
open Go.RowKit Go.Proofs.YtmfonbonfhngnaaW.PrintWords
set_option linter.unusedVariables false
set_option linter.unusedSimpArgs false

/-! ### lines -/
theorem bump_ne (n : Int) (r : List Int) : (bump n r).1 ≠ [] := by
  cases r with
  | nil => simp [bump]
  | cons b r => unfold bump; split <;> simp
theorem insT_ne (n : Int) : ∀ {T : List (List Int)}, (∀ r ∈ T, r ≠ []) → ∀ r ∈ insT n T, r ≠ [] := by
  intro T
  induction T generalizing n with
  | nil =>
    intro _ r hr
    obtain rfl : r = [n] := by simpa [insT] using hr
    simp
  | cons q T ih =>
    intro h r hr
    have h' : ∀ r ∈ T, r ≠ [] := fun r hr => h r (List.mem_cons_of_mem _ hr)
    unfold insT at hr
    split at hr
    · rcases List.mem_cons.1 hr with rfl | hr
      · exact bump_ne n q
      · exact h' r hr
    · rcases List.mem_cons.1 hr with rfl | hr
      · exact bump_ne n q
      · exact ih _ h' r hr
theorem fold_ne : ∀ (w : List Int) {T : List (List Int)}, (∀ r ∈ T, r ≠ []) → ∀ r ∈ w.foldl (fun T n => insT n T) T, r ≠ []
  | [], _, h => h
  | n :: w, T, h => fold_ne w (insT_ne n h)
theorem tabF_ne (w : List Int) : ∀ r ∈ tabF w, r ≠ [] := fold_ne w (fun r hr => by cases hr)
theorem wordT_len (T : List (List Int)) : (wordT T).length = sumL (lens T) := by
  induction T with
  | nil => rfl
  | cons r T ih =>
    rw [wordT, List.length_append, ih]
    show _ = r.length + sumL (lens T)
    omega
theorem tabF_sum (w : List Int) : sumL (lens (tabF w)) = w.length := by
  rw [← wordT_len, (tabF_kn w).perm.length_eq]
/-- what so many pockets take at most -/
def best (l : List Int) (k : Nat) : Nat := sumL ((lens (tabF l)).take k)
theorem sumL_take_succ : ∀ (L : List Nat) (k : Nat), sumL (L.take (k + 1)) = sumL (L.take k) + L.getD k 0
  | [], k => by simp [sumL]
  | a :: L, 0 => by simp [sumL]
  | a :: L, k + 1 => by
    have := sumL_take_succ L k
    simp only [List.take_succ_cons] at this ⊢
    show a + sumL (L.take (k + 1)) = a + sumL (L.take k) + (a :: L).getD (k + 1) 0
    rw [this, List.getD_cons_succ]; omega
theorem best_succ (l : List Int) (k : Nat) : best l (k + 1) = best l k + (lens (tabF l)).getD k 0 := sumL_take_succ _ _
theorem best_zero (l : List Int) : best l 0 = 0 := by simp [best, sumL]
theorem best_all (l : List Int) {k : Nat} (h : (tabF l).length ≤ k) : best l k = l.length := by
  unfold best
  rw [List.take_of_length_le (by simpa [lens] using h), tabF_sum]
theorem lens_pos (l : List Int) {k : Nat} (h : k < (tabF l).length) : 0 < (lens (tabF l)).getD k 0 := by
  have hk : k < (lens (tabF l)).length := by simpa [lens] using h
  rw [List.getD_eq_getElem?_getD, List.getElem?_eq_getElem hk, Option.getD_some]
  simp only [lens, List.getElem_map]
  have := tabF_ne l (tabF l)[k] (List.getElem_mem h)
  exact List.length_pos_iff.2 this
theorem lens_none (l : List Int) {k : Nat} (h : (tabF l).length ≤ k) : (lens (tabF l)).getD k 0 = 0 := by
  rw [List.getD_eq_getElem?_getD, List.getElem?_eq_none (by simpa [lens] using h)]; rfl
theorem best_mono (l : List Int) {j k : Nat} (h : j ≤ k) : best l j ≤ best l k := by
  induction k with
  | zero => obtain rfl : j = 0 := by omega
            exact Nat.le_refl _
  | succ k ih =>
    by_cases e : j = k + 1
    · subst e; exact Nat.le_refl _
    · have := ih (by omega)
      rw [best_succ]; omega
theorem best_le (l : List Int) (k : Nat) : best l k ≤ l.length := by
  by_cases h : (tabF l).length ≤ k
  · rw [best_all l h]; exact Nat.le_refl _
  · have := best_mono l (j := k) (k := (tabF l).length) (by omega)
    rw [best_all l (Nat.le_refl _)] at this; exact this
theorem best_lt (l : List Int) {k : Nat} (h : k < (tabF l).length) : best l k < l.length := by
  have h1 := best_succ l k
  have h2 := lens_pos l h
  have h3 := best_le l (k + 1)
  omega

/-! ### a turning is one that pockets can take -/
def cntN (out : List Int) : Nat → Nat → Nat
  | 0, _ => 0
  | d + 1, i => (if 0 ≤ rd out (i : Nat) then 1 else 0) + cntN out d (i + 1)
theorem cntN_tot (out : List Int) : ∀ (d i : Nat), totG (i + d) (fun j => if 0 ≤ rd out (j : Nat) then 1 else 0) = totG i (fun j => if 0 ≤ rd out (j : Nat) then 1 else 0) + cntN out d i
  | 0, i => by simp [cntN]
  | d + 1, i => by
    have := cntN_tot out d (i + 1)
    rw [show i + (d + 1) = i + 1 + d by omega, this, totG, cntN]
    split <;> omega
theorem cntO_nat (out : List Int) : cntO out = cntN out out.length 0 := by
  have := cntN_tot out out.length 0
  rw [Nat.zero_add] at this
  unfold cntO
  rw [this]; simp [totG]
theorem put_can_go {l out : List Int} {p : Nat} (h : Put l out p) : ∀ (d i : Nat) (s : Nat → Int), i + d = l.length → (∀ q : Nat, q < p → ∀ j, i ≤ j → j < l.length → rd out (j : Nat) = q → s q ≤ rd l (j : Nat)) → Can p s (l.drop i) (cntN out d i)
  | 0, i, s, hi, hs => by
    rw [List.drop_eq_nil_of_le (by omega)]; exact .nil s
  | d + 1, i, s, hi, hs => by
    have hlt : i < l.length := by omega
    rw [List.drop_eq_getElem_cons hlt, ← rd_get l hlt, cntN]
    rcases h.range i hlt with hr | ⟨h0, h1⟩
    · rw [if_neg (by omega), Nat.zero_add]
      exact .skip (put_can_go h d (i + 1) s (by omega) fun q hq j hj hjl e => hs q hq j (by omega) hjl e)
    · rw [if_pos h0, Nat.add_comm 1]
      obtain ⟨q, hq⟩ : ∃ q : Nat, rd out (i : Nat) = q := ⟨(rd out (i : Nat)).toNat, by omega⟩
      refine .take (p := q) (by omega) (hs q (by omega) i (Nat.le_refl _) hlt hq) (put_can_go h d (i + 1) _ (by omega) fun q' hq' j hj hjl e => ?_)
      unfold updS
      split
      · rename_i eq
        exact h.order i j (by omega) hjl h0 (by rw [hq, e, eq])
      · exact hs q' hq' j (by omega) hjl e
theorem put_can {l out : List Int} {p : Nat} (h : Put l out p) (s : Nat → Int) (hs : ∀ q, ∀ a ∈ l, s q ≤ a) : ∃ c : Nat, cntO out = c ∧ Can p s l c := by
  refine ⟨_, cntO_nat out, ?_⟩
  have := put_can_go h l.length 0 s (by omega) fun q _ j _ hj _ => hs q _ (by rw [rd_get l hj]; exact List.getElem_mem hj)
  rw [List.drop_zero, ← h.len] at this
  exact this
theorem low_bound (l : List Int) : ∃ m : Int, ∀ a ∈ l, m ≤ a := by
  induction l with
  | nil => exact ⟨0, fun a h => by cases h⟩
  | cons x l ih =>
    obtain ⟨m, hm⟩ := ih
    refine ⟨min x m, fun a ha => ?_⟩
    rcases List.mem_cons.1 ha with rfl | ha
    · omega
    · have := hm a ha; omega
/-- no turning takes more -/
theorem put_best {l out : List Int} {p : Nat} (h : Put l out p) : cntO out ≤ best l p := by
  obtain ⟨m, hm⟩ := low_bound l
  obtain ⟨c, hc, hcan⟩ := put_can h (fun _ => m) (fun _ => hm)
  have := (greene p l (fun _ => m) (fun _ => hm)).2 c hcan
  rw [hc]
  exact Int.ofNat_le.2 this
/-- a net above which no step rises takes the most -/
theorem st_best {l : List Int} {F : Nat → Nat → Int} {t : List Int} {q : Nat → Int} {p : Nat} (hs : St l F t p) (h : PotL l F t q) (hl : l.length ≤ 30) (hp : p ≤ 30) : sumT t = best l p := by
  obtain ⟨out, _, h1, h2⟩ := turned hl hs (by omega) 63 31 (Nat.le_refl _) (Nat.le_refl _)
  have h3 := put_best h1
  obtain ⟨m, hm⟩ := low_bound l
  have h4 := cut hs h hl (greene p l (fun _ => m) (fun _ => hm)).1
  have h5 : ((sumL ((lens (tabF l)).take p) : Nat) : Int) = best l p := rfl
  omega
theorem zero_all {l : List Int} {F : Nat → Nat → Int} {t : List Int} {q : Nat → Int} (hF : Fl l F t) (h : PotL l F t q) (hz : q 1 ≤ 0) : sumT t = l.length := by
  unfold sumT
  rw [totG_congr (g := fun _ => 1) fun i hi => ?_, totG_const, hF.len, Int.mul_one]
  have hi' : i < l.length := by rw [← hF.len]; exact hi
  rcases hF.bit i hi with e | e
  · have := h.left i hi' e
    have := h.ge i hi'
    omega
  · exact e

/-- what is so after some pockets -/
structure Pushed (l : List Int) (F : Nat → Nat → Int) (t : List Int) (G : Nat → Int) (p m : Nat) : Prop where
  st : St l F t p
  pot : PotL l F t G
  le : p ≤ m
  stop : p < m → G 1 ≤ 0
theorem push_ok {l : List Int} (hl : l.length ≤ 30) (ks kw : Nat) (hks : 70000 ≤ ks) (hkw : 61 ≤ kw) (m : Nat) : ∀ (p : Nat) {F : Nat → Nat → Int} {t : List Int} {q : Nat → Int} (out : List Int), St l F t p → Pot (edges l F t) q → p + m ≤ 30 →
    ∃ gs F2 t2 G2, pushL l ks kw m F t out = some (out ++ gs, F2, t2, G2) ∧ Pushed l F2 t2 G2 (p + gs.length) (p + m) ∧ (∀ i (h : i < gs.length), gs[i] = (best l (p + i + 1) : Int) - best l (p + i) ∧ 0 < gs[i]) := by
  induction m with
  | zero =>
    intro p F t q out hs hq hp
    obtain ⟨G, h1, h2, h3⟩ := search_ok hq ks hks
    exact ⟨[], F, t, G, by rw [pushL, h1, List.append_nil]; rfl, ⟨hs, (h3.pot hq h2 hs.len).logs hs.toFl, Nat.le_refl _, fun h => absurd h (Nat.lt_irrefl _)⟩, fun i h => absurd h (Nat.not_lt_zero _)⟩
  | succ m ih =>
    intro p F t q out hs hq hp
    obtain ⟨G, h1, h2, h3⟩ := search_ok hq ks hks
    have hP := h3.pot hq h2 hs.len
    rw [pushL, h1, Option.bind_some]
    by_cases hg : G 1 ≤ 0
    · rw [if_pos hg]
      exact ⟨[], F, t, G, by rw [List.append_nil], ⟨hs, hP.logs hs.toFl, by simp, fun _ => hg⟩, fun i h => absurd h (Nat.not_lt_zero _)⟩
    · rw [if_neg hg]
      obtain ⟨F2, t2, w1, w2, w3, w4⟩ := way_ok hq h2 h3 hs (by omega) kw hkw
      rw [w1, Option.bind_some]
      have w2' : St l F2 t2 ((p + 1 : Nat) : Int) := by rw [show ((p + 1 : Nat) : Int) = (p : Int) + 1 by omega]; exact w2
      obtain ⟨gs, F3, t3, G3, e, hd, hgs⟩ := ih (p + 1) (out ++ [G 1]) w2' w3 (by omega)
      have b1 := st_best hs (hP.logs hs.toFl) hl (by omega)
      have b2 := st_best w2' (w3.logs w2'.toFl) hl (by omega)
      refine ⟨G 1 :: gs, F3, t3, G3, by rw [e, List.append_assoc]; rfl, ?_, fun i h => ?_⟩
      · rw [List.length_cons, show p + (gs.length + 1) = p + 1 + gs.length by omega, show p + (m + 1) = p + 1 + m by omega]
        exact hd
      · cases i with
        | zero =>
          simp only [List.getElem_cons_zero, Nat.add_zero]
          omega
        | succ i =>
          simp only [List.getElem_cons_succ]
          have := hgs i (by simpa using h)
          rw [show p + (i + 1) + 1 = p + 1 + i + 1 by omega, show p + (i + 1) = p + 1 + i by omega]
          exact this
theorem rd_zeros (n i : Nat) : rd (List.replicate n 0) (i : Nat) = 0 := by
  simp only [rd, Int.toNat_natCast, List.getD_eq_getElem?_getD]
  by_cases h : i < n
  · rw [List.getElem?_eq_getElem (by simpa using h)]; simp
  · rw [List.getElem?_eq_none (by simp; omega)]; rfl
theorem st_zero (l : List Int) : St l (fun _ _ => 0) (List.replicate l.length 0) ((0 : Nat) : Int) := by
  refine ⟨⟨by simp, fun i hi => .inl (rd_zeros _ _), fun x y => Int.le_refl _, fun x y h => absurd h (Int.lt_irrefl _)⟩, fun φ => ?_⟩
  have h1 : flowW (fun _ _ => 0) φ = 0 := by
    unfold flowW
    rw [totG_congr (g := fun _ => 0) fun x _ => ?_, totG_zero]
    rw [totG_congr (g := fun _ => 0) fun y _ => ?_, totG_zero]
    simp
  have h2 : logW (List.replicate l.length 0) φ = 0 := by
    unfold logW
    rw [totG_congr (g := fun _ => 0) fun x _ => ?_, totG_zero]
    rw [rd_zeros]; simp
  rw [h1, h2]; simp
theorem pot_zero {l : List Int} (hl : l.length ≤ 30) : Pot (edges l (fun _ _ => 0) (List.replicate l.length 0)) (fun v => if v = 1 then (l.length : Int) else (((v - 1) / 2 : Nat) : Int)) := by
  have lk : ∀ x ∈ linksL l, x.1 < 62 ∧ x.2 < 62 ∧ x.1 ≠ 1 ∧ ((if x.1 = 1 then (l.length : Int) else (((x.1 - 1) / 2 : Nat) : Int)) ≤ (if x.2 = 1 then (l.length : Int) else (((x.2 - 1) / 2 : Nat) : Int))) := by
    rintro ⟨a, b⟩ hx
    obtain ⟨i, hi, hx⟩ := mem_links.1 hx
    rcases hx with ⟨rfl, rfl⟩ | ⟨rfl, rfl⟩ | ⟨rfl, rfl⟩ | ⟨j, h1, h2, h3, rfl, rfl⟩
    · refine ⟨by omega, by omega, by omega, ?_⟩
      simp only
      rw [if_neg (by omega), if_neg (by omega)]; omega
    · refine ⟨by omega, by omega, by omega, ?_⟩
      simp only
      rw [if_neg (by omega), if_neg (by omega)]; omega
    · refine ⟨by omega, by omega, by omega, ?_⟩
      simp only
      rw [if_neg (by omega)]; (try simp only [if_true]); omega
    · refine ⟨by omega, by omega, by omega, ?_⟩
      simp only
      rw [if_neg (by omega), if_neg (by omega)]; omega
  refine ⟨rfl, fun e he => ?_, fun e he => ?_, fun v hv => ?_⟩
  · rcases mem_edges.1 he with ⟨x, hx, rfl⟩ | ⟨x, hx, hf, rfl⟩ | ⟨i, hi, rfl⟩
    · exact ⟨(lk x hx).1, (lk x hx).2.1⟩
    · exact absurd hf (Int.lt_irrefl _)
    · rw [List.length_replicate] at hi
      unfold logE
      rw [if_pos (rd_zeros _ _)]
      simp only; omega
  · rcases mem_edges.1 he with ⟨x, hx, rfl⟩ | ⟨x, hx, hf, rfl⟩ | ⟨i, hi, rfl⟩
    · have := (lk x hx).2.2.2
      simp only at this ⊢
      omega
    · exact absurd hf (Int.lt_irrefl _)
    · unfold logE
      rw [if_pos (rd_zeros _ _)]
      simp only
      rw [if_neg (by omega), if_neg (by omega)]; omega
  · (try simp only)
    split <;> omega
/-- the net's gains are the lines of the tableau -/
theorem pushed_is {l : List Int} (hl : l.length ≤ 30) (m : Int) (hm : 0 ≤ m ∧ m ≤ 30) (k : Nat) (hk : 70000 ≤ k) : ∃ F t G, pushF k l m = some (((lens (tabF l)).take m.toNat).map (fun n : Nat => (n : Int)), F, t, G) ∧ Pushed l F t G ((lens (tabF l)).take m.toNat).length m.toNat ∧ sumT t = best l m.toNat := by
  obtain ⟨gs, F, t, G, e, hd, hg⟩ := push_ok hl (min k 999999999) (min k 1000) (by omega) (by omega) m.toNat 0 [] (st_zero l) (pot_zero hl) (by omega)
  rw [Nat.zero_add, Nat.zero_add] at hd
  have hlen : (lens (tabF l)).length = (tabF l).length := by simp [lens]
  have hT := st_best hd.st hd.pot hl (by have := hd.le; omega)
  have hgl : gs.length ≤ (tabF l).length := by
    apply Classical.byContradiction
    intro hn
    have := hg (tabF l).length (by omega)
    rw [Nat.zero_add, best_all l (Nat.le_refl _), best_all l (by omega)] at this
    omega
  have hge : gs.length < m.toNat → (tabF l).length ≤ gs.length := fun h => by
    apply Classical.byContradiction
    intro hn
    have h1 := zero_all hd.st.toFl hd.pot (hd.stop h)
    have h2 := best_lt l (k := gs.length) (by omega)
    omega
  have hle := hd.le
  have hgs : gs = ((lens (tabF l)).take m.toNat).map (fun n : Nat => (n : Int)) := by
    apply List.ext_getElem
    · rw [List.length_map, List.length_take, hlen]; omega
    · intro i h1 h2
      rw [(hg i h1).1, Nat.zero_add, best_succ, List.getElem_map, List.getElem_take, List.getD_eq_getElem?_getD, List.getElem?_eq_getElem (by omega), Option.getD_some]
      omega
  have hl2 : gs.length = ((lens (tabF l)).take m.toNat).length := by rw [hgs, List.length_map]
  refine ⟨F, t, G, by rw [pushF, e, List.nil_append, hgs], by rw [← hl2]; exact hd, ?_⟩
  rw [hT]
  congr 1
  by_cases h : gs.length < m.toNat
  · rw [best_all l (hge h), best_all l (by have := hge h; omega)]
  · rw [show gs.length = m.toNat by omega]
end Go.Proofs.Ytmfonbonfhngnaa.Hand

/- A turning is judged alike by the program and by the reference; what is judged right is a turning that pockets can take. Condition: at most 40 logs. -/
namespace Go.Proofs.Ytmfonbonfhngnaa.Hand
set_option linter.unusedVariables false
set_option linter.unusedSimpArgs false
open Go.RowKit Go.Proofs.YtmfonbonfhngnaaW.PrintWords Go.Proofs.Ytmfonbonfhngnaa.PrR
set_option linter.unusedVariables false
set_option linter.unusedSimpArgs false

/-- is a log turned behind one that is wanted after it? -/
def badB (l t : List Int) (i : Nat) : Nat → Nat → Bool
  | 0, _ => false
  | e + 1, j => (decide (rd t (j : Nat) = rd t (i : Nat)) && decide (rd l (i : Nat) < rd l (j : Nat))) || badB l t i e (j + 1)
theorem badB_iff (l t : List Int) (i : Nat) : ∀ e j, badB l t i e j = true ↔ ∃ k, j ≤ k ∧ k < j + e ∧ rd t (k : Nat) = rd t (i : Nat) ∧ rd l (i : Nat) < rd l (k : Nat)
  | 0, j => by
    constructor
    · intro h; cases h
    · rintro ⟨k, h1, h2, _⟩; omega
  | e + 1, j => by
    rw [badB, Bool.or_eq_true, badB_iff l t i e (j + 1), Bool.and_eq_true, decide_eq_true_eq, decide_eq_true_eq]
    constructor
    · rintro (⟨h1, h2⟩ | ⟨k, h1, h2, h3⟩)
      · exact ⟨j, Nat.le_refl _, by omega, h1, h2⟩
      · exact ⟨k, by omega, by omega, h3⟩
    · rintro ⟨k, h1, h2, h3, h4⟩
      by_cases e : k = j
      · subst e; exact .inl ⟨h3, h4⟩
      · exact .inr ⟨k, by omega, by omega, h3, h4⟩
theorem wrap_succ {i : Nat} (h : i ≤ 1000000) : wrap64 ((i : Int) + 1) = ((i + 1 : Nat) : Int) := by
  rw [IntWalk.wrap64_in _ ⟨by omega, by omega⟩]; omega
def ckP (l t : List Int) : Nat → Nat → Nat → Int × Int
  | 0, _, n => ((n : Int), 0)
  | d + 1, i, n => if rd t (i : Nat) < 0 then ckP l t d (i + 1) n else if badB l t i i 0 then (0, 16) else ckP l t d (i + 1) (n + 1)
theorem refT_go {l t : List Int} (hl : t.length = l.length) (hn : t.length ≤ 40) (d : Nat) : ∀ (i n k : Nat), i + d = t.length → n ≤ 40 - d → d * 50 < k → peaveyref03_CheckTurning.l1 k l t n i = some (ckP l t d i n) := by
  induction d with
  | zero =>
    intro i n k hi hnn hk
    obtain ⟨k, rfl⟩ : ∃ q, k = q + 1 := ⟨k - 1, by omega⟩
    rw [peaveyref03_CheckTurning.l1, if_neg (by omega), ckP]
  | succ d ih =>
    intro i n k hi hnn hk
    obtain ⟨k, rfl⟩ : ∃ q, k = q + 1 := ⟨k - 1, by omega⟩
    rw [peaveyref03_CheckTurning.l1, if_pos (by omega), if_pos (by omega), ckP]
    by_cases hneg : rd t (i : Nat) < 0
    · rw [if_pos hneg, if_pos hneg, wrap_succ (by omega)]
      exact ih (i + 1) n k (by omega) (by omega) (by omega)
    · rw [if_neg hneg, if_neg hneg, wrap_succ (i := n) (by omega)]
      have inner : ∀ (e j k' : Nat), j + e = i → d * 50 + e + 1 < k' → peaveyref03_CheckTurning.l2 k' l t (n + 1 : Nat) i j = some (if badB l t i e j then (0, 16) else ckP l t d (i + 1) (n + 1)) := by
        intro e
        induction e with
        | zero =>
          intro j k' hj hk'
          obtain ⟨k', rfl⟩ : ∃ q, k' = q + 1 := ⟨k' - 1, by omega⟩
          rw [peaveyref03_CheckTurning.l2, if_neg (by omega), wrap_succ (by omega), badB, if_neg (by decide)]
          exact ih (i + 1) (n + 1) k' (by omega) (by omega) (by omega)
        | succ e ihe =>
          intro j k' hj hk'
          obtain ⟨k', rfl⟩ : ∃ q, k' = q + 1 := ⟨k' - 1, by omega⟩
          rw [peaveyref03_CheckTurning.l2, if_pos (by omega), if_pos (by omega), if_pos (by omega), if_pos (by omega), if_pos (by omega), badB]
          by_cases he : rd t (j : Nat) = rd t (i : Nat)
          · rw [if_pos he, if_pos (by omega), if_pos (by omega)]
            by_cases hg : rd l (i : Nat) < rd l (j : Nat)
            · rw [if_pos hg]; simp [he, hg]
            · rw [if_neg hg, wrap_succ (by omega), ihe (j + 1) k' (by omega) (by omega)]; simp [he, hg]
          · rw [if_neg he, wrap_succ (by omega), ihe (j + 1) k' (by omega) (by omega)]; simp [he]
      exact inner i 0 k (by omega) (by omega)
theorem refT_range {l t : List Int} {m : Int} (hl : t.length = l.length) (hn : t.length ≤ 40) (d : Nat) : ∀ (i k : Nat), i + d = t.length → 2001 + d < k → peaveyref03_CheckTurning.l0 k l m t i = some (if (t.drop i).any (offB m) then (0, 3) else ckP l t t.length 0 0) := by
  induction d with
  | zero =>
    intro i k hi hk
    obtain ⟨k, rfl⟩ : ∃ q, k = q + 1 := ⟨k - 1, by omega⟩
    rw [peaveyref03_CheckTurning.l0, if_neg (by omega), List.drop_eq_nil_of_le (by omega)]
    exact refT_go hl hn t.length 0 0 k (by omega) (by omega) (by omega)
  | succ d ih =>
    intro i k hi hk
    obtain ⟨k, rfl⟩ : ∃ q, k = q + 1 := ⟨k - 1, by omega⟩
    have hlt : i < t.length := by omega
    rw [peaveyref03_CheckTurning.l0, if_pos (by omega), if_pos (by omega), List.drop_eq_getElem_cons hlt, List.any_cons, ← rd_get t hlt, wrap_succ (by omega), ih (i + 1) k (by omega) (by omega)]
    unfold offB
    by_cases a : rd t (i : Nat) < -1
    · rw [if_pos a]; simp [a]
    · rw [if_neg a]
      by_cases b : m ≤ rd t (i : Nat)
      · rw [if_pos b]; simp [b]
      · rw [if_neg b]; simp [a, b]
theorem asked_is (l : List Int) (m : Int) (k : Nat) (hk : 31 ≤ k) : peaveyref03_Asked.f k l m = some (openE l m) := by
  unfold peaveyref03_Asked.f openE outB
  rw [refRow_is l k hk]
  simp only [Option.bind_some]
  by_cases h : rowE l = 0
  · rw [if_pos h, if_neg (show ¬ rowE l ≠ 0 by omega)]
    by_cases a : m < 0
    · rw [if_pos a]; simp [a]
    · rw [if_neg a]
      by_cases b : m > 30
      · rw [if_pos b]; simp [b]
      · rw [if_neg b]; simp [a, b]
  · rw [if_neg h, if_pos h]
theorem open_zero {l : List Int} {m : Int} (h : openE l m = 0) : rowE l = 0 ∧ l.length ≤ 30 ∧ 0 ≤ m ∧ m ≤ 30 ∧ ∀ a ∈ l, 1 ≤ a ∧ a ≤ 1099511627776 := by
  unfold openE outB at h
  split at h
  · rename_i h1; exact absurd h h1
  · rename_i h1
    have h2 : rowE l = 0 := by omega
    have h3 := h2
    unfold rowE at h3
    split at h3
    · omega
    · split at h
      · omega
      · rename_i h4
        simp only [Bool.or_eq_true, decide_eq_true_eq, not_or] at h4
        refine ⟨h2, by omega, by omega, by omega, fun a ha => ?_⟩
        split at h3
        · omega
        · rename_i h5
          have : ¬ outB 1 1099511627776 a = true := fun hh => h5 (List.any_eq_true.2 ⟨a, ha, hh⟩)
          unfold outB at this
          simp only [Bool.or_eq_true, decide_eq_true_eq, not_or] at this
          omega
theorem rd_pos {l : List Int} (h : ∀ a ∈ l, 1 ≤ a ∧ a ≤ 1099511627776) {i : Nat} (hi : i < l.length) : 1 ≤ rd l (i : Nat) := by
  rw [rd_get l hi]; exact (h _ (List.getElem_mem hi)).1
/-- the program's way of judging comes to the same -/
theorem ckN_is {l t : List Int} {m : Nat} (hl : t.length = l.length) (hp : ∀ a ∈ l, 1 ≤ a ∧ a ≤ 1099511627776) (ht : ∀ i, i < t.length → rd t (i : Nat) < m) (d : Nat) : ∀ (i n : Nat) (last : List Int), i + d = t.length → last.length = m →
    (∀ p : Nat, p < m → (∀ j, j < i → rd t (j : Nat) = p → rd l (j : Nat) ≤ rd last (p : Nat)) ∧ (rd last (p : Nat) = 0 ∨ ∃ j, j < i ∧ rd t (j : Nat) = p ∧ rd last (p : Nat) = rd l (j : Nat))) → ckN l t d i last n = ckP l t d i n := by
  induction d with
  | zero => intro i n last hi hm hI; rfl
  | succ d ih =>
    intro i n last hi hm hI
    rw [ckN, ckP]
    by_cases hneg : rd t (i : Nat) < 0
    · rw [if_pos hneg, if_pos hneg]
      refine ih (i + 1) n last (by omega) hm fun p hp => ?_
      obtain ⟨h1, h2⟩ := hI p hp
      refine ⟨fun j hj e => ?_, ?_⟩
      · by_cases ej : j = i
        · subst ej; omega
        · exact h1 j (by omega) e
      · rcases h2 with h2 | ⟨j, h2, h3⟩
        · exact .inl h2
        · exact .inr ⟨j, by omega, h3⟩
    · rw [if_neg hneg, if_neg hneg]
      obtain ⟨p, hpe⟩ : ∃ p : Nat, rd t (i : Nat) = p := ⟨(rd t (i : Nat)).toNat, by omega⟩
      have hpm : p < m := by have := ht i (by omega); omega
      have hli := rd_pos hp (show i < l.length by omega)
      obtain ⟨h1, h2⟩ := hI p hpm
      have hbad : badB l t i i 0 = true ↔ rd l (i : Nat) < rd last (p : Nat) := by
        rw [badB_iff, hpe]
        constructor
        · rintro ⟨k, _, hk, e, hlt⟩
          have := h1 k (by omega) e
          omega
        · intro hlt
          rcases h2 with h2 | ⟨j, g1, g2, g3⟩
          · omega
          · exact ⟨j, Nat.zero_le _, by omega, g2, by omega⟩
      rw [hpe]
      by_cases hb : rd l (i : Nat) < rd last (p : Nat)
      · rw [if_pos hb, if_pos (hbad.2 hb)]
      · rw [if_neg hb, if_neg (fun h => hb (hbad.1 h)), Int.toNat_natCast]
        refine ih (i + 1) (n + 1) _ (by omega) (by rw [List.length_set]; exact hm) fun p' hp' => ?_
        by_cases e : p' = p
        · subst e
          rw [rd_set_same last (by omega)]
          refine ⟨fun j hj e => ?_, .inr ⟨i, by omega, hpe, rfl⟩⟩
          by_cases ej : j = i
          · subst ej; exact Int.le_refl _
          · have := h1 j (by omega) e; omega
        · rw [rd_set_other last e]
          obtain ⟨k1, k2⟩ := hI p' hp'
          refine ⟨fun j hj e' => ?_, ?_⟩
          · by_cases ej : j = i
            · subst ej; exact absurd (Int.ofNat_inj.1 (e'.symm.trans hpe)) e
            · exact k1 j (by omega) e'
          · rcases k2 with k2 | ⟨j, k2, k3⟩
            · exact .inl k2
            · exact .inr ⟨j, by omega, k3⟩
theorem any_off {t : List Int} {m : Int} (h : ¬ t.any (offB m) = true) : ∀ i, i < t.length → -1 ≤ rd t (i : Nat) ∧ rd t (i : Nat) < m := by
  intro i hi
  have : ¬ offB m (rd t (i : Nat)) = true := fun hh => h (List.any_eq_true.2 ⟨_, by rw [rd_get t hi]; exact List.getElem_mem hi, hh⟩)
  unfold offB at this
  simp only [Bool.or_eq_true, decide_eq_true_eq, not_or] at this
  omega
theorem ckV_is (l : List Int) (m : Int) (t : List Int) : ckV l m t = if openE l m ≠ 0 then (0, openE l m) else if t.length ≠ l.length then (0, 15) else if t.any (offB m) then (0, 3) else ckP l t t.length 0 0 := by
  unfold ckV
  split
  · rfl
  · rename_i h
    split
    · rfl
    · rename_i h2
      split
      · rfl
      · rename_i h3
        obtain ⟨g1, g2, g3, g4, g5⟩ := open_zero (l := l) (m := m) (by omega)
        obtain ⟨q, rfl⟩ : ∃ q : Nat, m = q := ⟨m.toNat, by omega⟩
        rw [Int.toNat_natCast]
        refine ckN_is (m := q) (by omega) g5 (fun i hi => (any_off h3 i hi).2) t.length 0 0 _ (by omega) (by simp) fun p hp => ⟨fun j hj _ => absurd hj (Nat.not_lt_zero _), .inl (rd_zeros _ _)⟩
/-- the reference's CheckTurning is the program's -/
theorem refTurning_is (l : List Int) (m : Int) (t : List Int) (k : Nat) (hk : 3000 ≤ k) : peaveyref03_CheckTurning.f k l m t = some (ckV l m t) := by
  rw [ckV_is]
  unfold peaveyref03_CheckTurning.f
  rw [asked_is l m k (by omega)]
  simp only [Option.bind_some]
  by_cases h : openE l m = 0
  · obtain ⟨g1, g2, g3, g4, g5⟩ := open_zero h
    rw [if_pos h, if_neg (show ¬ openE l m ≠ 0 by omega)]
    by_cases h2 : t.length = l.length
    · rw [if_pos (show (t.length : Int) = l.length by omega), if_neg (show ¬ t.length ≠ l.length by omega), show ((0 : Int)) = ((0 : Nat) : Int) from rfl, refT_range h2 (by omega) t.length 0 k (by omega) (by omega), List.drop_zero]
      rfl
    · rw [if_neg (show ¬ (t.length : Int) = l.length by omega), if_pos h2]
  · rw [if_neg h, if_pos h]
/-- what is judged right -/
theorem ckP_ok {l t : List Int} (d : Nat) : ∀ (i n : Nat), i + d = t.length → (∀ a, i ≤ a → a < t.length → 0 ≤ rd t (a : Nat) → ¬ badB l t a a 0 = true) → ckP l t d i n = (((n + cntN t d i : Nat) : Int), 0) := by
  induction d with
  | zero => intro i n _ _; rw [ckP, cntN]; rfl
  | succ d ih =>
    intro i n hi h
    rw [ckP, cntN]
    by_cases hneg : rd t (i : Nat) < 0
    · rw [if_pos hneg, if_neg (by omega), ih (i + 1) n (by omega) fun a ha => h a (by omega), Nat.zero_add]
    · rw [if_neg hneg, if_neg (h i (Nat.le_refl _) (by omega) (by omega)), if_pos (by omega), ih (i + 1) (n + 1) (by omega) fun a ha => h a (by omega), Nat.add_assoc]
theorem ckP_back {l t : List Int} (d : Nat) : ∀ (i n : Nat), i + d = t.length → (ckP l t d i n).2 = 0 → ∀ a, i ≤ a → a < t.length → 0 ≤ rd t (a : Nat) → ¬ badB l t a a 0 = true := by
  induction d with
  | zero => intro i n hi _ a h1 h2; omega
  | succ d ih =>
    intro i n hi h a h1 h2 h3
    rw [ckP] at h
    by_cases hneg : rd t (i : Nat) < 0
    · rw [if_pos hneg] at h
      by_cases e : a = i
      · subst e; omega
      · exact ih (i + 1) n (by omega) h a (by omega) h2 h3
    · rw [if_neg hneg] at h
      split at h
      · exact absurd h (by decide)
      · rename_i hb
        by_cases e : a = i
        · subst e; exact hb
        · exact ih (i + 1) (n + 1) (by omega) h a (by omega) h2 h3
theorem put_ck {l t : List Int} {m : Int} (ho : openE l m = 0) (h : Put l t m) : ckV l m t = (cntO t, 0) := by
  rw [ckV_is, if_neg (by omega), if_neg (by have := h.len; omega), if_neg, ckP_ok t.length 0 0 (by omega), cntO_nat, Nat.zero_add]
  · intro a _ ha h0 hb
    rw [badB_iff] at hb
    obtain ⟨k, _, hk, e, hlt⟩ := hb
    have := h.order k a (by omega) (by rw [← h.len]; exact ha) (by omega) e
    omega
  · intro ha
    obtain ⟨x, hx, hxo⟩ := List.any_eq_true.1 ha
    obtain ⟨i, hi, rfl⟩ := List.getElem_of_mem hx
    have := h.range i (by rw [← h.len]; exact hi)
    rw [rd_get t hi] at this
    unfold offB at hxo
    simp only [Bool.or_eq_true, decide_eq_true_eq] at hxo
    obtain ⟨g1, g2, g3, g4, g5⟩ := open_zero ho
    omega
theorem ck_put {l t : List Int} {m : Int} {n : Int} (h : ckV l m t = (n, 0)) : openE l m = 0 ∧ Put l t m ∧ n = cntO t := by
  rw [ckV_is] at h
  split at h
  · rename_i h1
    have := congrArg Prod.snd h
    simp only at this
    exact absurd this h1
  · rename_i h1
    split at h
    · have := congrArg Prod.snd h
      simp at this
    · rename_i h2
      split at h
      · have := congrArg Prod.snd h
        simp at this
      · rename_i h3
        have hb := ckP_back (l := l) (t := t) t.length 0 0 (by omega) (by rw [h])
        have hv := ckP_ok (l := l) (t := t) t.length 0 0 (by omega) hb
        refine ⟨by omega, ⟨by omega, fun i hi => ?_, fun i j hij hj h0 e => ?_⟩, ?_⟩
        · have := any_off h3 i (by omega); omega
        · apply Classical.byContradiction
          intro hn
          exact hb j (Nat.zero_le _) (by omega) (by omega) ((badB_iff l t j j 0).2 ⟨i, Nat.zero_le _, by omega, e, by omega⟩)
        · rw [hv, Nat.zero_add] at h
          rw [cntO_nat]
          exact (congrArg Prod.fst h).symm
end Go.Proofs.Ytmfonbonfhngnaa.Hand
