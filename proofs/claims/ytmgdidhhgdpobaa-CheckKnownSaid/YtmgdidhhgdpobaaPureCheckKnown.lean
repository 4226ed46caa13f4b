/- CheckKnown: the examples of the chapter hold. -/
import Derived.Test.YtmgdidhhgdpobaaHWorks
namespace Go.Proofs.Ytmgdidhhgdpobaa.Pkn
set_option linter.unusedVariables false
set_option linter.unusedSimpArgs false
open Go.RowKit Go.Maps Go.Proofs.Ytmgdidhhgdpobaa.Hand Go.Proofs.YtmgdidhhgdpobaaW.PrintWords Go.Proofs.YtmgdidhhgdpobaaW.PrintLast Go.Proofs.YtmgdidhhgdpobaaW.PrintMore Go.Proofs.Ytmgdidhhgdpobaa.PrA Go.Proofs.Ytmgdidhhgdpobaa.PrC

def nextT : Nat → List Nat → List Nat
  | p, [] => [p]
  | p, x :: l => (p + x) :: nextT x l
def rowT : Nat → List Nat
  | 0 => [1]
  | n + 1 => nextT 0 (rowT n)
theorem nextT_getD : ∀ (l : List Nat) (p i : Nat), (nextT p l).getD i 0 = (if i = 0 then p else l.getD (i - 1) 0) + l.getD i 0
  | [], p, 0 => by simp [nextT]
  | [], p, i + 1 => by simp [nextT]
  | x :: l, p, 0 => by simp [nextT]
  | x :: l, p, i + 1 => by
    have := nextT_getD l x i
    simp only [nextT, List.getD_cons_succ, this, if_neg (Nat.succ_ne_zero i), Nat.add_sub_cancel]
    cases i with
    | zero => simp
    | succ i => simp
theorem rowT_getD : ∀ (n i : Nat), (rowT n).getD i 0 = binom n i
  | 0, 0 => rfl
  | 0, i + 1 => by simp [rowT, binom]
  | n + 1, 0 => by rw [rowT, nextT_getD, rowT_getD n 0, binom_zero, binom_zero]; rfl
  | n + 1, i + 1 => by rw [rowT, nextT_getD, if_neg (Nat.succ_ne_zero i), Nat.add_sub_cancel, rowT_getD n i, rowT_getD n (i + 1), binom_succ]
theorem binom_mid : binom 50 25 = 126410606437752 := by
  rw [← rowT_getD]; decide +kernel
theorem val1 : check_Choose.f 50 25 = some (126410606437752, 0) := by
  unfold check_Choose.f
  have e : (outB 0 50 50 || outB 0 50 25) = false := by decide
  rw [e]
  simp only [Bool.false_eq_true, if_false]
  rw [show (50 : Int).toNat = 50 by rfl, show (25 : Int).toNat = 25 by rfl, binom_mid]
  rfl
theorem val2 : check_Choose.f 2 5 = some (0, 0) := by kernel_rfl
theorem val3 : check_Draw.f 5 3 0 = some ([0, 1, 2], 0) := by kernel_rfl
theorem val4 : check_Draw.f 5 3 9 = some ([2, 3, 4], 0) := by kernel_rfl
theorem val5 : check_Between.f 10 4 1 0 1 = some (1, 7, 0) := by kernel_rfl
theorem val6 : check_Between.f 10 4 1 1 2 = some (0, 0, 2) := by kernel_rfl
theorem val7 : check_Likely.f 10 4 0 = some (0, 0) := by kernel_rfl
theorem val8 : check_CheckPlan.f 10 1 5 1 10 1 10 6 1 = some 0 := by kernel_rfl
theorem val9 : check_CheckPlan.f 10 1 5 1 10 1 10 6 7 = some 3 := by kernel_rfl
theorem val10 : check_Sides.f 10 1 5 1 10 1 10 6 1 = some (0, 5, 0) := by kernel_rfl
theorem val11 : check_Sides.f 10 1 5 1 10 1 10 2 0 = some (9, 10, 0) := by kernel_rfl
theorem valI : peaveylaw10_Ints.f 5 [0, 1, 2] [0, 1, 2] = some true := by kernel_rfl
theorem valJ : peaveylaw10_Ints.f 5 [2, 3, 4] [2, 3, 4] = some true := by kernel_rfl

set_option maxHeartbeats 16000000 in
set_option maxRecDepth 100000 in
theorem known_any (w : World) : Calls Try.prog 16 #[] w fun e w' => e = .returned (.bool true) ∧ Below w.heap.size w w' := by
  have hu46 := Try.underlying46
  have hu48 := Try.underlying48
  have hu27 := Try.underlying27
  have hu39 := Try.underlying39
  have T0 := Lib.hid (fun W => peaveylaw10_Test.calls 10 1 5 10 1 5 1 10 1 10 W rfl)
  have T1 := Lib.hid (fun W => check_Choose.calls 50 25 126410606437752 0 W val1)
  have T2 := Lib.hid (fun W => check_Choose.calls 2 5 0 0 W val2)
  have T5 := Lib.hid (fun W => check_Between.calls 10 4 1 0 1 1 7 0 W val5)
  have T6 := Lib.hid (fun W => check_Between.calls 10 4 1 1 2 0 0 2 W val6)
  have T7 := Lib.hid (fun W => check_Likely.calls 10 4 0 0 0 W val7)
  have T8 := Lib.hid (fun W => check_CheckPlan.calls 10 1 5 1 10 1 10 6 1 0 W val8)
  have T9 := Lib.hid (fun W => check_CheckPlan.calls 10 1 5 1 10 1 10 6 7 3 W val9)
  have T10 := Lib.hid (fun W => check_Sides.calls 10 1 5 1 10 1 10 6 1 0 5 0 W val10)
  have T11 := Lib.hid (fun W => check_Sides.calls 10 1 5 1 10 1 10 2 0 9 10 0 W val11)
  have TF := Lib.hid (fun a b W => peaveylaw10_frac.calls a b a b W rfl)
  have TP := Lib.hid (fun a b W => peaveylaw10_plan.calls a b a b W rfl)
  have TR := Lib.hid (fun a b W => peaveylaw10_rg.calls a b a b W rfl)
  have TO := Lib.hid (fun v W => of_any v W)
  have H0 : Hid (Held w w []) := Lib.hid ⟨fun _ h => (by cases h), Below.refl _ _⟩
  go_enter Try.func16, Try.ntmps16
  go_wp2_with fail
  refine (T0.out _).mono ?_
  rintro e w1 ⟨rfl, hb⟩
  have H1 := Lib.hid (held_step H0.out hb)
  clear H0
  clear hb
  go_wp2_with fail
  obtain ⟨w2, hw⟩ : ∃ w', w' = w1.alloc (.cells #[.int .i64 10, .int .i64 1, .int .i64 5, .int .i64 1, .int .i64 10, .int .i64 1, .int .i64 10] 46) := ⟨_, rfl⟩
  rw [← hw]
  have H2 : Hid (Held w w2 ([(⟨w1.heap.size, 0, none⟩, .int .i64 10), (⟨w1.heap.size, 1, none⟩, .int .i64 1), (⟨w1.heap.size, 2, none⟩, .int .i64 5), (⟨w1.heap.size, 3, none⟩, .int .i64 1), (⟨w1.heap.size, 4, none⟩, .int .i64 10), (⟨w1.heap.size, 5, none⟩, .int .i64 1), (⟨w1.heap.size, 6, none⟩, .int .i64 10)] ++ [])) := Lib.hid (by rw [hw]; exact held_more (held_step H1.out ((Below.refl _ _).alloc (Nat.le_refl _) _)) (cells_seven _ _ _ _ _ _ _ _ _))
  have hg : Below w1.heap.size w1 w2 := by rw [hw]; exact (Below.refl _ _).alloc (Nat.le_refl _) _
  clear hw hg
  refine (T1.out _).mono ?_
  rintro e w3 ⟨rfl, hb⟩
  have H3 := Lib.hid (held_step H2.out hb)
  clear H2
  clear hb
  go_wp2_with fail
  refine (T2.out _).mono ?_
  rintro e w4 ⟨rfl, hb⟩
  have H4 := Lib.hid (held_step H3.out hb)
  clear H3
  clear hb
  go_wp2_with fail
  refine (check_Draw.calls 5 3 0 [0, 1, 2] 0 _ val3).mono ?_
  rintro e w5 ⟨v0, rfl, hR, hb⟩
  have H5 := Lib.hid (held_step H4.out hb)
  clear H4
  clear hb
  obtain ⟨A, c, hv, hcc, hrd⟩ := Kd.R_reads hR
  have hv : v0 = .slice A 3 c := hv
  subst hv
  have RA := Lib.hid (And.intro hcc hrd)
  clear hcc hrd hR
  go_wp2_with fail
  refine (check_Draw.calls 5 3 9 [2, 3, 4] 0 _ val4).mono ?_
  rintro e w6 ⟨v0, rfl, hR, hb⟩
  have H6 := Lib.hid (held_step H5.out hb)
  clear H5
  have RA := Lib.hid (And.intro RA.out.1 (Kd.C_below RA.out.2 hb))
  clear hb
  obtain ⟨A1, c1, hv, hcc, hrd⟩ := Kd.R_reads hR
  have hv : v0 = .slice A1 3 c1 := hv
  subst hv
  have RB := Lib.hid (And.intro hcc hrd)
  clear hcc hrd hR
  go_wp2_with fail
  refine (TF.out _ _ _).mono ?_
  rintro e w7 ⟨rfl, hb⟩
  have H7 := Lib.hid (held_step H6.out hb)
  clear H6
  have RA := Lib.hid (And.intro RA.out.1 (Kd.C_below RA.out.2 hb))
  have RB := Lib.hid (And.intro RB.out.1 (Kd.C_below RB.out.2 hb))
  clear hb
  go_wp2_with fail
  refine (T5.out _).mono ?_
  rintro e w8 ⟨rfl, hb⟩
  have H8 := Lib.hid (held_step H7.out hb)
  clear H7
  have RA := Lib.hid (And.intro RA.out.1 (Kd.C_below RA.out.2 hb))
  have RB := Lib.hid (And.intro RB.out.1 (Kd.C_below RB.out.2 hb))
  clear hb
  go_wp2_with fail
  obtain ⟨w9, hw⟩ : ∃ w', w' = w8.alloc (.cells #[.int .i64 1, .int .i64 7] 39) := ⟨_, rfl⟩
  rw [← hw]
  have H9 : Hid (Held w w9 ([(⟨w8.heap.size, 0, none⟩, .int .i64 1), (⟨w8.heap.size, 1, none⟩, .int .i64 7)] ++ ([(⟨w1.heap.size, 0, none⟩, .int .i64 10), (⟨w1.heap.size, 1, none⟩, .int .i64 1), (⟨w1.heap.size, 2, none⟩, .int .i64 5), (⟨w1.heap.size, 3, none⟩, .int .i64 1), (⟨w1.heap.size, 4, none⟩, .int .i64 10), (⟨w1.heap.size, 5, none⟩, .int .i64 1), (⟨w1.heap.size, 6, none⟩, .int .i64 10)] ++ []))) := Lib.hid (by rw [hw]; exact held_more (held_step H8.out ((Below.refl _ _).alloc (Nat.le_refl _) _)) (cells_two _ _ _ _))
  have hg : Below w8.heap.size w8 w9 := by rw [hw]; exact (Below.refl _ _).alloc (Nat.le_refl _) _
  have RA := Lib.hid (And.intro RA.out.1 (Kd.C_below RA.out.2 hg))
  have RB := Lib.hid (And.intro RB.out.1 (Kd.C_below RB.out.2 hg))
  clear hw hg
  refine (TF.out _ _ _).mono ?_
  rintro e w10 ⟨rfl, hb⟩
  have H10 := Lib.hid (held_step H9.out hb)
  clear H9
  have RA := Lib.hid (And.intro RA.out.1 (Kd.C_below RA.out.2 hb))
  have RB := Lib.hid (And.intro RB.out.1 (Kd.C_below RB.out.2 hb))
  clear hb
  go_wp2_with fail
  refine (T6.out _).mono ?_
  rintro e w11 ⟨rfl, hb⟩
  have H11 := Lib.hid (held_step H10.out hb)
  clear H10
  have RA := Lib.hid (And.intro RA.out.1 (Kd.C_below RA.out.2 hb))
  have RB := Lib.hid (And.intro RB.out.1 (Kd.C_below RB.out.2 hb))
  clear hb
  go_wp2_with fail
  obtain ⟨w12, hw⟩ : ∃ w', w' = w11.alloc (.cells #[.int .i64 0, .int .i64 0] 39) := ⟨_, rfl⟩
  rw [← hw]
  have H12 : Hid (Held w w12 ([(⟨w11.heap.size, 0, none⟩, .int .i64 0), (⟨w11.heap.size, 1, none⟩, .int .i64 0)] ++ ([(⟨w8.heap.size, 0, none⟩, .int .i64 1), (⟨w8.heap.size, 1, none⟩, .int .i64 7)] ++ ([(⟨w1.heap.size, 0, none⟩, .int .i64 10), (⟨w1.heap.size, 1, none⟩, .int .i64 1), (⟨w1.heap.size, 2, none⟩, .int .i64 5), (⟨w1.heap.size, 3, none⟩, .int .i64 1), (⟨w1.heap.size, 4, none⟩, .int .i64 10), (⟨w1.heap.size, 5, none⟩, .int .i64 1), (⟨w1.heap.size, 6, none⟩, .int .i64 10)] ++ [])))) := Lib.hid (by rw [hw]; exact held_more (held_step H11.out ((Below.refl _ _).alloc (Nat.le_refl _) _)) (cells_two _ _ _ _))
  have hg : Below w11.heap.size w11 w12 := by rw [hw]; exact (Below.refl _ _).alloc (Nat.le_refl _) _
  have RA := Lib.hid (And.intro RA.out.1 (Kd.C_below RA.out.2 hg))
  have RB := Lib.hid (And.intro RB.out.1 (Kd.C_below RB.out.2 hg))
  clear hw hg
  refine (T7.out _).mono ?_
  rintro e w13 ⟨rfl, hb⟩
  have H13 := Lib.hid (held_step H12.out hb)
  clear H12
  have RA := Lib.hid (And.intro RA.out.1 (Kd.C_below RA.out.2 hb))
  have RB := Lib.hid (And.intro RB.out.1 (Kd.C_below RB.out.2 hb))
  clear hb
  go_wp2_with fail
  have f0 := kept_cell' (p := ⟨w1.heap.size, 0, none⟩) (H13.out.1 (⟨w1.heap.size, 0, none⟩, .int .i64 10) (by simp))
  have f1 := kept_cell' (p := ⟨w1.heap.size, 1, none⟩) (H13.out.1 (⟨w1.heap.size, 1, none⟩, .int .i64 1) (by simp))
  have f2 := kept_cell' (p := ⟨w1.heap.size, 2, none⟩) (H13.out.1 (⟨w1.heap.size, 2, none⟩, .int .i64 5) (by simp))
  have f3 := kept_cell' (p := ⟨w1.heap.size, 3, none⟩) (H13.out.1 (⟨w1.heap.size, 3, none⟩, .int .i64 1) (by simp))
  have f4 := kept_cell' (p := ⟨w1.heap.size, 4, none⟩) (H13.out.1 (⟨w1.heap.size, 4, none⟩, .int .i64 10) (by simp))
  have f5 := kept_cell' (p := ⟨w1.heap.size, 5, none⟩) (H13.out.1 (⟨w1.heap.size, 5, none⟩, .int .i64 1) (by simp))
  have f6 := kept_cell' (p := ⟨w1.heap.size, 6, none⟩) (H13.out.1 (⟨w1.heap.size, 6, none⟩, .int .i64 10) (by simp))
  refine wp_region_kept w13.heap.size w13 (by kernel_rfl) (by kernel_rfl) (Below.refl _ _) ?_
  repeat (go_big_quiet_step (first | with_reducible exact kept_calls _ (Nat.le_refl _) (TP.out 6 1 _) | with_reducible exact kept_calls _ (Nat.le_refl _) (TP.out 6 7 _) | with_reducible exact kept_calls _ (Nat.le_refl _) (T8.out _) | with_reducible exact kept_calls _ (Nat.le_refl _) (T9.out _)))
  refine wpQuiet_nil ?_
  rintro _ ⟨X13, rfl⟩
  obtain ⟨w14, hX⟩ : ∃ w', w' = X13.1 := ⟨_, rfl⟩
  rw [← hX]
  have hb : Below w13.heap.size w13 w14 := by rw [hX]; exact X13.2
  have H14 := Lib.hid (held_step H13.out hb)
  have RA := Lib.hid (And.intro RA.out.1 (Kd.C_below RA.out.2 hb))
  have RB := Lib.hid (And.intro RB.out.1 (Kd.C_below RB.out.2 hb))
  clear hb hX H13 f0 f1 f2 f3 f4 f5 f6
  go_wp2_with fail
  have f0 := kept_cell' (p := ⟨w1.heap.size, 0, none⟩) (H14.out.1 (⟨w1.heap.size, 0, none⟩, .int .i64 10) (by simp))
  have f1 := kept_cell' (p := ⟨w1.heap.size, 1, none⟩) (H14.out.1 (⟨w1.heap.size, 1, none⟩, .int .i64 1) (by simp))
  have f2 := kept_cell' (p := ⟨w1.heap.size, 2, none⟩) (H14.out.1 (⟨w1.heap.size, 2, none⟩, .int .i64 5) (by simp))
  have f3 := kept_cell' (p := ⟨w1.heap.size, 3, none⟩) (H14.out.1 (⟨w1.heap.size, 3, none⟩, .int .i64 1) (by simp))
  have f4 := kept_cell' (p := ⟨w1.heap.size, 4, none⟩) (H14.out.1 (⟨w1.heap.size, 4, none⟩, .int .i64 10) (by simp))
  have f5 := kept_cell' (p := ⟨w1.heap.size, 5, none⟩) (H14.out.1 (⟨w1.heap.size, 5, none⟩, .int .i64 1) (by simp))
  have f6 := kept_cell' (p := ⟨w1.heap.size, 6, none⟩) (H14.out.1 (⟨w1.heap.size, 6, none⟩, .int .i64 10) (by simp))
  refine wp_region_kept w14.heap.size w14 (by kernel_rfl) (by kernel_rfl) (Below.refl _ _) ?_
  repeat (go_big_quiet_step (first | with_reducible exact kept_calls _ (Nat.le_refl _) (TP.out 6 1 _) | with_reducible exact kept_calls _ (Nat.le_refl _) (T10.out _)))
  refine wpQuiet_nil ?_
  rintro _ ⟨X14, rfl⟩
  obtain ⟨w15, hX⟩ : ∃ w', w' = X14.1 := ⟨_, rfl⟩
  rw [← hX]
  have hb : Below w14.heap.size w14 w15 := by rw [hX]; exact X14.2
  have H15 := Lib.hid (held_step H14.out hb)
  have RA := Lib.hid (And.intro RA.out.1 (Kd.C_below RA.out.2 hb))
  have RB := Lib.hid (And.intro RB.out.1 (Kd.C_below RB.out.2 hb))
  clear hb hX H14 f0 f1 f2 f3 f4 f5 f6
  go_wp2_with fail
  have f0 := kept_cell' (p := ⟨w1.heap.size, 0, none⟩) (H15.out.1 (⟨w1.heap.size, 0, none⟩, .int .i64 10) (by simp))
  have f1 := kept_cell' (p := ⟨w1.heap.size, 1, none⟩) (H15.out.1 (⟨w1.heap.size, 1, none⟩, .int .i64 1) (by simp))
  have f2 := kept_cell' (p := ⟨w1.heap.size, 2, none⟩) (H15.out.1 (⟨w1.heap.size, 2, none⟩, .int .i64 5) (by simp))
  have f3 := kept_cell' (p := ⟨w1.heap.size, 3, none⟩) (H15.out.1 (⟨w1.heap.size, 3, none⟩, .int .i64 1) (by simp))
  have f4 := kept_cell' (p := ⟨w1.heap.size, 4, none⟩) (H15.out.1 (⟨w1.heap.size, 4, none⟩, .int .i64 10) (by simp))
  have f5 := kept_cell' (p := ⟨w1.heap.size, 5, none⟩) (H15.out.1 (⟨w1.heap.size, 5, none⟩, .int .i64 1) (by simp))
  have f6 := kept_cell' (p := ⟨w1.heap.size, 6, none⟩) (H15.out.1 (⟨w1.heap.size, 6, none⟩, .int .i64 10) (by simp))
  refine wp_region_kept w15.heap.size w15 (by kernel_rfl) (by kernel_rfl) (Below.refl _ _) ?_
  repeat (go_big_quiet_step (first | with_reducible exact kept_calls _ (Nat.le_refl _) (TP.out 2 0 _) | with_reducible exact kept_calls _ (Nat.le_refl _) (T11.out _)))
  refine wpQuiet_nil ?_
  rintro _ ⟨X15, rfl⟩
  obtain ⟨w16, hX⟩ : ∃ w', w' = X15.1 := ⟨_, rfl⟩
  rw [← hX]
  have hb : Below w15.heap.size w15 w16 := by rw [hX]; exact X15.2
  have H16 := Lib.hid (held_step H15.out hb)
  have RA := Lib.hid (And.intro RA.out.1 (Kd.C_below RA.out.2 hb))
  have RB := Lib.hid (And.intro RB.out.1 (Kd.C_below RB.out.2 hb))
  clear hb hX H15 f0 f1 f2 f3 f4 f5 f6
  go_wp2_with fail
  have b0 : w16.cell? ⟨w8.heap.size, 0, none⟩ = some (.int .i64 1) := H16.out.1 (⟨w8.heap.size, 0, none⟩, .int .i64 1) (by simp)
  have b1 : w16.cell? ⟨w8.heap.size, 1, none⟩ = some (.int .i64 7) := H16.out.1 (⟨w8.heap.size, 1, none⟩, .int .i64 7) (by simp)
  have hS : Below w16.heap.size w16 w16.drew := (Below.refl _ _).drew
  refine wp_region_held_list (k := 91) rfl (fun w' => Below w16.heap.size w16 w') (by kernel_rfl) ?_
  generalize w16.drew = wq at hS ⊢
  as_aux_lemma =>
   refine take_list (i := 0) (v := .int .i64 0) rfl (by kernel_rfl) (by kernel_rfl) (by kernel_rfl) (fun _ _ _ h => h) (by rfl) (fun _ _ => by kernel_rfl) hS ?_
   simp only [Act.put, List.setIfInBounds_toArray, List.set_cons_zero, List.set_cons_succ]
   refine take_list (i := 1) (v := .bool true) rfl (by kernel_rfl) (by kernel_rfl) (by kernel_rfl) (fun _ _ _ h => h) (by rfl) (fun _ _ => by kernel_rfl) hS ?_
   simp only [Act.put, List.setIfInBounds_toArray, List.set_cons_zero, List.set_cons_succ]
   refine take_list (i := 2) (v := .bool true) rfl (by kernel_rfl) (by kernel_rfl) (by kernel_rfl) (fun _ _ _ h => h) (by rfl) (fun _ _ => by kernel_rfl) hS ?_
   simp only [Act.put, List.setIfInBounds_toArray, List.set_cons_zero, List.set_cons_succ]
   refine take_list (i := 3) (v := .int .i64 126410606437752) rfl (by kernel_rfl) (by kernel_rfl) (by kernel_rfl) (fun _ _ _ h => h) (by rfl) (fun _ _ => by kernel_rfl) hS ?_
   simp only [Act.put, List.setIfInBounds_toArray, List.set_cons_zero, List.set_cons_succ]
   refine take_list (i := 4) (v := .bool true) rfl (by kernel_rfl) (by kernel_rfl) (by kernel_rfl) (fun _ _ _ h => h) (by rfl) (fun _ _ => by kernel_rfl) hS ?_
   simp only [Act.put, List.setIfInBounds_toArray, List.set_cons_zero, List.set_cons_succ]
   refine take_list (i := 5) (v := .bool true) rfl (by kernel_rfl) (by kernel_rfl) (by kernel_rfl) (fun _ _ _ h => h) (by rfl) (fun _ _ => by kernel_rfl) hS ?_
   simp only [Act.put, List.setIfInBounds_toArray, List.set_cons_zero, List.set_cons_succ]
   refine take_list (i := 6) (v := .bool true) rfl (by kernel_rfl) (by kernel_rfl) (by kernel_rfl) (fun _ _ _ h => h) (by rfl) (fun _ _ => by kernel_rfl) hS ?_
   simp only [Act.put, List.setIfInBounds_toArray, List.set_cons_zero, List.set_cons_succ]
   refine take_list (i := 7) (v := .int .i64 0) rfl (by kernel_rfl) (by kernel_rfl) (by kernel_rfl) (fun _ _ _ h => h) (by rfl) (fun _ _ => by kernel_rfl) hS ?_
   simp only [Act.put, List.setIfInBounds_toArray, List.set_cons_zero, List.set_cons_succ]
   refine take_list (i := 8) (v := .bool true) rfl (by kernel_rfl) (by kernel_rfl) (by kernel_rfl) (fun _ _ _ h => h) (by rfl) (fun _ _ => by kernel_rfl) hS ?_
   simp only [Act.put, List.setIfInBounds_toArray, List.set_cons_zero, List.set_cons_succ]
   refine take_list (i := 9) (v := .bool true) rfl (by kernel_rfl) (by kernel_rfl) (by kernel_rfl) (fun _ _ _ h => h) (by rfl) (fun _ _ => by kernel_rfl) hS ?_
   simp only [Act.put, List.setIfInBounds_toArray, List.set_cons_zero, List.set_cons_succ]
   refine take_list (i := 10) (v := .bool true) rfl (by kernel_rfl) (by kernel_rfl) (by kernel_rfl) (fun _ _ _ h => h) (by rfl) (fun _ _ => by kernel_rfl) hS ?_
   simp only [Act.put, List.setIfInBounds_toArray, List.set_cons_zero, List.set_cons_succ]
   refine take_list (i := 11) (v := .int .i64 0) rfl (by kernel_rfl) (by kernel_rfl) (by kernel_rfl) (fun _ _ _ h => h) (by rfl) (fun _ _ => by kernel_rfl) hS ?_
   simp only [Act.put, List.setIfInBounds_toArray, List.set_cons_zero, List.set_cons_succ]
   refine take_list (i := 12) (v := .bool true) rfl (by kernel_rfl) (by kernel_rfl) (by kernel_rfl) (fun _ _ _ h => h) (by rfl) (fun _ _ => by kernel_rfl) hS ?_
   simp only [Act.put, List.setIfInBounds_toArray, List.set_cons_zero, List.set_cons_succ]
   refine take_list (i := 13) (v := .bool true) rfl (by kernel_rfl) (by kernel_rfl) (by kernel_rfl) (fun _ _ _ h => h) (by rfl) (fun _ _ => by kernel_rfl) hS ?_
   simp only [Act.put, List.setIfInBounds_toArray, List.set_cons_zero, List.set_cons_succ]
   refine take_list (i := 14) (v := .bool true) rfl (by kernel_rfl) (by kernel_rfl) (by kernel_rfl) (fun _ _ _ h => h) (by rfl) (fun _ _ => by kernel_rfl) hS ?_
   simp only [Act.put, List.setIfInBounds_toArray, List.set_cons_zero, List.set_cons_succ]
   refine take_list (i := 15) (v := .int .i64 0) rfl (by kernel_rfl) (by kernel_rfl) (by kernel_rfl) (fun _ _ _ h => h) (by rfl) (fun _ _ => by kernel_rfl) hS ?_
   simp only [Act.put, List.setIfInBounds_toArray, List.set_cons_zero, List.set_cons_succ]
   refine take_list (i := 16) (v := .bool true) rfl (by kernel_rfl) (by kernel_rfl) (by kernel_rfl) (fun _ _ _ h => h) (by rfl) (fun _ _ => by kernel_rfl) hS ?_
   simp only [Act.put, List.setIfInBounds_toArray, List.set_cons_zero, List.set_cons_succ]
   refine take_list (i := 17) (v := .bool true) rfl (by kernel_rfl) (by kernel_rfl) (by kernel_rfl) (fun _ _ _ h => h) (by rfl) (fun _ _ => by kernel_rfl) hS ?_
   simp only [Act.put, List.setIfInBounds_toArray, List.set_cons_zero, List.set_cons_succ]
   refine take_list (i := 18) (v := .bool true) rfl (by kernel_rfl) (by kernel_rfl) (by kernel_rfl) (fun _ _ _ h => h) (by rfl) (fun _ _ => by kernel_rfl) hS ?_
   simp only [Act.put, List.setIfInBounds_toArray, List.set_cons_zero, List.set_cons_succ]
   as_aux_lemma =>
    refine take_list (i := 19) (v := .slice A 3 c) rfl (by kernel_rfl) (by kernel_rfl) (by kernel_rfl) (fun _ _ _ h => h) (by rfl) (fun _ _ => by kernel_rfl) hS ?_
    simp only [Act.put, List.setIfInBounds_toArray, List.set_cons_zero, List.set_cons_succ]
    refine step_list (i := 20) (by kernel_rfl) rfl (by rfl) (fun K hK => ?_)
    go_simp
    have hS2 := hS.trans (((Below.refl _ _).alloc (Nat.le_refl _) _).mono hS.size : Below w16.heap.size wq (wq.alloc (.cells #[.int .i64 0, .int .i64 1, .int .i64 2] 3)))
    refine hK _ _ hS2 ?_
    clear hK K hS
    have hS := hS2
    clear hS2
    have hrd := reads3 wq 0 1 2
    have HRD := Lib.hid hrd
    clear hrd
    refine step_list (i := 21) (by kernel_rfl) rfl (by rfl) (fun K hK => ?_)
    go_simp
    refine (TO.out _ _).mono ?_
    rintro e wq1 ⟨rfl, hb⟩
    have hS2 := hS.trans (hb.mono hS.size)
    refine hK _ _ hS2 ?_
    clear hK K hS
    have hS := hS2
    clear hS2
    have hrd := Kd.C_below HRD.out hb
    have HRE := Lib.hid hrd
    clear hrd hb HRD
    have HRF := Lib.hid (Kd.C_below RA.out.2 hS)
    refine step_list (i := 22) (by kernel_rfl) rfl (by rfl) (fun K hK => ?_)
    go_simp
    refine (peaveylaw10_Ints.calls 5 A c [0, 1, 2] _ 3 [0, 1, 2] true _ HRF.out RA.out.1 HRE.out (by decide) valI).mono ?_
    rintro e wq2 ⟨rfl, hd⟩
    obtain ⟨nd, hnd⟩ := hd
    have hS2 : Below w16.heap.size w16 wq2 := by rw [hnd]; exact below_drewN hS nd
    refine hK _ _ hS2 ?_
    clear hK K hS hnd HRE HRF
    have hS := hS2
    clear hS2
    refine take_list (i := 23) (v := .bool true) rfl (by kernel_rfl) (by kernel_rfl) (by kernel_rfl) (fun _ _ _ h => h) (by rfl) (fun _ _ => by kernel_rfl) hS ?_
    simp only [Act.put, List.setIfInBounds_toArray, List.set_cons_zero, List.set_cons_succ]
    refine take_list (i := 24) (v := .bool true) rfl (by kernel_rfl) (by kernel_rfl) (by kernel_rfl) (fun _ _ _ h => h) (by rfl) (fun _ _ => by kernel_rfl) hS ?_
    simp only [Act.put, List.setIfInBounds_toArray, List.set_cons_zero, List.set_cons_succ]
    refine take_list (i := 25) (v := .int .i64 0) rfl (by kernel_rfl) (by kernel_rfl) (by kernel_rfl) (fun _ _ _ h => h) (by rfl) (fun _ _ => by kernel_rfl) hS ?_
    simp only [Act.put, List.setIfInBounds_toArray, List.set_cons_zero, List.set_cons_succ]
    refine take_list (i := 26) (v := .bool true) rfl (by kernel_rfl) (by kernel_rfl) (by kernel_rfl) (fun _ _ _ h => h) (by rfl) (fun _ _ => by kernel_rfl) hS ?_
    simp only [Act.put, List.setIfInBounds_toArray, List.set_cons_zero, List.set_cons_succ]
    refine take_list (i := 27) (v := .bool true) rfl (by kernel_rfl) (by kernel_rfl) (by kernel_rfl) (fun _ _ _ h => h) (by rfl) (fun _ _ => by kernel_rfl) hS ?_
    simp only [Act.put, List.setIfInBounds_toArray, List.set_cons_zero, List.set_cons_succ]
    refine take_list (i := 28) (v := .bool true) rfl (by kernel_rfl) (by kernel_rfl) (by kernel_rfl) (fun _ _ _ h => h) (by rfl) (fun _ _ => by kernel_rfl) hS ?_
    simp only [Act.put, List.setIfInBounds_toArray, List.set_cons_zero, List.set_cons_succ]
    as_aux_lemma =>
     refine take_list (i := 29) (v := .slice A1 3 c1) rfl (by kernel_rfl) (by kernel_rfl) (by kernel_rfl) (fun _ _ _ h => h) (by rfl) (fun _ _ => by kernel_rfl) hS ?_
     simp only [Act.put, List.setIfInBounds_toArray, List.set_cons_zero, List.set_cons_succ]
     refine step_list (i := 30) (by kernel_rfl) rfl (by rfl) (fun K hK => ?_)
     go_simp
     have hS2 := hS.trans (((Below.refl _ _).alloc (Nat.le_refl _) _).mono hS.size : Below w16.heap.size wq2 (wq2.alloc (.cells #[.int .i64 2, .int .i64 3, .int .i64 4] 3)))
     refine hK _ _ hS2 ?_
     clear hK K hS
     have hS := hS2
     clear hS2
     have hrd := reads3 wq2 2 3 4
     have HRD := Lib.hid hrd
     clear hrd
     refine step_list (i := 31) (by kernel_rfl) rfl (by rfl) (fun K hK => ?_)
     go_simp
     refine (TO.out _ _).mono ?_
     rintro e wq3 ⟨rfl, hb⟩
     have hS2 := hS.trans (hb.mono hS.size)
     refine hK _ _ hS2 ?_
     clear hK K hS
     have hS := hS2
     clear hS2
     have hrd := Kd.C_below HRD.out hb
     have HRE := Lib.hid hrd
     clear hrd hb HRD
     have HRF := Lib.hid (Kd.C_below RB.out.2 hS)
     refine step_list (i := 32) (by kernel_rfl) rfl (by rfl) (fun K hK => ?_)
     go_simp
     refine (peaveylaw10_Ints.calls 5 A1 c1 [2, 3, 4] _ 3 [2, 3, 4] true _ HRF.out RB.out.1 HRE.out (by decide) valJ).mono ?_
     rintro e wq4 ⟨rfl, hd⟩
     obtain ⟨nd, hnd⟩ := hd
     have hS2 : Below w16.heap.size w16 wq4 := by rw [hnd]; exact below_drewN hS nd
     refine hK _ _ hS2 ?_
     clear hK K hS hnd HRE HRF
     have hS := hS2
     clear hS2
     refine take_list (i := 33) (v := .bool true) rfl (by kernel_rfl) (by kernel_rfl) (by kernel_rfl) (fun _ _ _ h => h) (by rfl) (fun _ _ => by kernel_rfl) hS ?_
     simp only [Act.put, List.setIfInBounds_toArray, List.set_cons_zero, List.set_cons_succ]
     refine take_list (i := 34) (v := .bool true) rfl (by kernel_rfl) (by kernel_rfl) (by kernel_rfl) (fun _ _ _ h => h) (by rfl) (fun _ _ => by kernel_rfl) hS ?_
     simp only [Act.put, List.setIfInBounds_toArray, List.set_cons_zero, List.set_cons_succ]
     refine take_list (i := 35) (v := .int .i64 0) rfl (by kernel_rfl) (by kernel_rfl) (by kernel_rfl) (fun _ _ _ h => h) (by rfl) (fun _ _ => by kernel_rfl) hS ?_
     simp only [Act.put, List.setIfInBounds_toArray, List.set_cons_zero, List.set_cons_succ]
     refine take_list (i := 36) (v := .bool true) rfl (by kernel_rfl) (by kernel_rfl) (by kernel_rfl) (fun _ _ _ h => h) (by rfl) (fun _ _ => by kernel_rfl) hS ?_
     simp only [Act.put, List.setIfInBounds_toArray, List.set_cons_zero, List.set_cons_succ]
     refine take_list (i := 37) (v := .bool true) rfl (by kernel_rfl) (by kernel_rfl) (by kernel_rfl) (fun _ _ _ h => h) (by rfl) (fun _ _ => by kernel_rfl) hS ?_
     simp only [Act.put, List.setIfInBounds_toArray, List.set_cons_zero, List.set_cons_succ]
     refine take_list (i := 38) (v := .bool true) rfl (by kernel_rfl) (by kernel_rfl) (by kernel_rfl) (fun _ _ _ h => h) (by rfl) (fun _ _ => by kernel_rfl) hS ?_
     simp only [Act.put, List.setIfInBounds_toArray, List.set_cons_zero, List.set_cons_succ]
     as_aux_lemma =>
      refine take_list (i := 39) (v := .agg #[.int .i64 1, .int .i64 7]) rfl (by kernel_rfl) (by kernel_rfl) (by kernel_rfl) (fun _ _ _ h => h) (by rfl) (by intro w' hw'; have q0 := held_now hw' b0; have q1 := held_now hw' b1; go_simp) hS ?_
      simp only [Act.put, List.setIfInBounds_toArray, List.set_cons_zero, List.set_cons_succ]
      refine step_list (i := 40) (by kernel_rfl) rfl (by rfl) (fun K hK => ?_)
      go_simp
      refine (TR.out 1 7 _).mono ?_
      rintro e wq5 ⟨rfl, hb⟩
      have hS2 := hS.trans (hb.mono hS.size)
      refine hK _ _ hS2 ?_
      clear hK K hS
      have hS := hS2
      clear hS2
      clear hb
      refine take_list (i := 41) (v := .bool true) rfl (by kernel_rfl) (by kernel_rfl) (by kernel_rfl) (fun _ _ _ h => h) (by rfl) (fun _ _ => by kernel_rfl) hS ?_
      simp only [Act.put, List.setIfInBounds_toArray, List.set_cons_zero, List.set_cons_succ]
      refine take_list (i := 42) (v := .bool true) rfl (by kernel_rfl) (by kernel_rfl) (by kernel_rfl) (fun _ _ _ h => h) (by rfl) (fun _ _ => by kernel_rfl) hS ?_
      simp only [Act.put, List.setIfInBounds_toArray, List.set_cons_zero, List.set_cons_succ]
      refine take_list (i := 43) (v := .bool true) rfl (by kernel_rfl) (by kernel_rfl) (by kernel_rfl) (fun _ _ _ h => h) (by rfl) (fun _ _ => by kernel_rfl) hS ?_
      simp only [Act.put, List.setIfInBounds_toArray, List.set_cons_zero, List.set_cons_succ]
      refine take_list (i := 44) (v := .int .i64 2) rfl (by kernel_rfl) (by kernel_rfl) (by kernel_rfl) (fun _ _ _ h => h) (by rfl) (fun _ _ => by kernel_rfl) hS ?_
      simp only [Act.put, List.setIfInBounds_toArray, List.set_cons_zero, List.set_cons_succ]
      refine take_list (i := 45) (v := .bool true) rfl (by kernel_rfl) (by kernel_rfl) (by kernel_rfl) (fun _ _ _ h => h) (by rfl) (fun _ _ => by kernel_rfl) hS ?_
      simp only [Act.put, List.setIfInBounds_toArray, List.set_cons_zero, List.set_cons_succ]
      refine take_list (i := 46) (v := .bool true) rfl (by kernel_rfl) (by kernel_rfl) (by kernel_rfl) (fun _ _ _ h => h) (by rfl) (fun _ _ => by kernel_rfl) hS ?_
      simp only [Act.put, List.setIfInBounds_toArray, List.set_cons_zero, List.set_cons_succ]
      refine take_list (i := 47) (v := .bool true) rfl (by kernel_rfl) (by kernel_rfl) (by kernel_rfl) (fun _ _ _ h => h) (by rfl) (fun _ _ => by kernel_rfl) hS ?_
      simp only [Act.put, List.setIfInBounds_toArray, List.set_cons_zero, List.set_cons_succ]
      refine take_list (i := 48) (v := .int .i64 0) rfl (by kernel_rfl) (by kernel_rfl) (by kernel_rfl) (fun _ _ _ h => h) (by rfl) (fun _ _ => by kernel_rfl) hS ?_
      simp only [Act.put, List.setIfInBounds_toArray, List.set_cons_zero, List.set_cons_succ]
      refine take_list (i := 49) (v := .bool true) rfl (by kernel_rfl) (by kernel_rfl) (by kernel_rfl) (fun _ _ _ h => h) (by rfl) (fun _ _ => by kernel_rfl) hS ?_
      simp only [Act.put, List.setIfInBounds_toArray, List.set_cons_zero, List.set_cons_succ]
      refine take_list (i := 50) (v := .bool true) rfl (by kernel_rfl) (by kernel_rfl) (by kernel_rfl) (fun _ _ _ h => h) (by rfl) (fun _ _ => by kernel_rfl) hS ?_
      simp only [Act.put, List.setIfInBounds_toArray, List.set_cons_zero, List.set_cons_succ]
      refine take_list (i := 51) (v := .bool true) rfl (by kernel_rfl) (by kernel_rfl) (by kernel_rfl) (fun _ _ _ h => h) (by rfl) (fun _ _ => by kernel_rfl) hS ?_
      simp only [Act.put, List.setIfInBounds_toArray, List.set_cons_zero, List.set_cons_succ]
      refine take_list (i := 52) (v := .int .i64 0) rfl (by kernel_rfl) (by kernel_rfl) (by kernel_rfl) (fun _ _ _ h => h) (by rfl) (fun _ _ => by kernel_rfl) hS ?_
      simp only [Act.put, List.setIfInBounds_toArray, List.set_cons_zero, List.set_cons_succ]
      refine take_list (i := 53) (v := .bool true) rfl (by kernel_rfl) (by kernel_rfl) (by kernel_rfl) (fun _ _ _ h => h) (by rfl) (fun _ _ => by kernel_rfl) hS ?_
      simp only [Act.put, List.setIfInBounds_toArray, List.set_cons_zero, List.set_cons_succ]
      refine take_list (i := 54) (v := .bool true) rfl (by kernel_rfl) (by kernel_rfl) (by kernel_rfl) (fun _ _ _ h => h) (by rfl) (fun _ _ => by kernel_rfl) hS ?_
      simp only [Act.put, List.setIfInBounds_toArray, List.set_cons_zero, List.set_cons_succ]
      refine take_list (i := 55) (v := .bool true) rfl (by kernel_rfl) (by kernel_rfl) (by kernel_rfl) (fun _ _ _ h => h) (by rfl) (fun _ _ => by kernel_rfl) hS ?_
      simp only [Act.put, List.setIfInBounds_toArray, List.set_cons_zero, List.set_cons_succ]
      refine take_list (i := 56) (v := .int .i64 0) rfl (by kernel_rfl) (by kernel_rfl) (by kernel_rfl) (fun _ _ _ h => h) (by rfl) (fun _ _ => by kernel_rfl) hS ?_
      simp only [Act.put, List.setIfInBounds_toArray, List.set_cons_zero, List.set_cons_succ]
      refine take_list (i := 57) (v := .bool true) rfl (by kernel_rfl) (by kernel_rfl) (by kernel_rfl) (fun _ _ _ h => h) (by rfl) (fun _ _ => by kernel_rfl) hS ?_
      simp only [Act.put, List.setIfInBounds_toArray, List.set_cons_zero, List.set_cons_succ]
      refine take_list (i := 58) (v := .bool true) rfl (by kernel_rfl) (by kernel_rfl) (by kernel_rfl) (fun _ _ _ h => h) (by rfl) (fun _ _ => by kernel_rfl) hS ?_
      simp only [Act.put, List.setIfInBounds_toArray, List.set_cons_zero, List.set_cons_succ]
      refine take_list (i := 59) (v := .bool true) rfl (by kernel_rfl) (by kernel_rfl) (by kernel_rfl) (fun _ _ _ h => h) (by rfl) (fun _ _ => by kernel_rfl) hS ?_
      simp only [Act.put, List.setIfInBounds_toArray, List.set_cons_zero, List.set_cons_succ]
      as_aux_lemma =>
       refine take_list (i := 60) (v := .int .i64 3) rfl (by kernel_rfl) (by kernel_rfl) (by kernel_rfl) (fun _ _ _ h => h) (by rfl) (fun _ _ => by kernel_rfl) hS ?_
       simp only [Act.put, List.setIfInBounds_toArray, List.set_cons_zero, List.set_cons_succ]
       refine take_list (i := 61) (v := .bool true) rfl (by kernel_rfl) (by kernel_rfl) (by kernel_rfl) (fun _ _ _ h => h) (by rfl) (fun _ _ => by kernel_rfl) hS ?_
       simp only [Act.put, List.setIfInBounds_toArray, List.set_cons_zero, List.set_cons_succ]
       refine take_list (i := 62) (v := .bool true) rfl (by kernel_rfl) (by kernel_rfl) (by kernel_rfl) (fun _ _ _ h => h) (by rfl) (fun _ _ => by kernel_rfl) hS ?_
       simp only [Act.put, List.setIfInBounds_toArray, List.set_cons_zero, List.set_cons_succ]
       refine take_list (i := 63) (v := .bool true) rfl (by kernel_rfl) (by kernel_rfl) (by kernel_rfl) (fun _ _ _ h => h) (by rfl) (fun _ _ => by kernel_rfl) hS ?_
       simp only [Act.put, List.setIfInBounds_toArray, List.set_cons_zero, List.set_cons_succ]
       refine take_list (i := 64) (v := .int .i64 0) rfl (by kernel_rfl) (by kernel_rfl) (by kernel_rfl) (fun _ _ _ h => h) (by rfl) (fun _ _ => by kernel_rfl) hS ?_
       simp only [Act.put, List.setIfInBounds_toArray, List.set_cons_zero, List.set_cons_succ]
       refine take_list (i := 65) (v := .bool true) rfl (by kernel_rfl) (by kernel_rfl) (by kernel_rfl) (fun _ _ _ h => h) (by rfl) (fun _ _ => by kernel_rfl) hS ?_
       simp only [Act.put, List.setIfInBounds_toArray, List.set_cons_zero, List.set_cons_succ]
       refine take_list (i := 66) (v := .bool true) rfl (by kernel_rfl) (by kernel_rfl) (by kernel_rfl) (fun _ _ _ h => h) (by rfl) (fun _ _ => by kernel_rfl) hS ?_
       simp only [Act.put, List.setIfInBounds_toArray, List.set_cons_zero, List.set_cons_succ]
       refine take_list (i := 67) (v := .bool true) rfl (by kernel_rfl) (by kernel_rfl) (by kernel_rfl) (fun _ _ _ h => h) (by rfl) (fun _ _ => by kernel_rfl) hS ?_
       simp only [Act.put, List.setIfInBounds_toArray, List.set_cons_zero, List.set_cons_succ]
       refine take_list (i := 68) (v := .int .i64 0) rfl (by kernel_rfl) (by kernel_rfl) (by kernel_rfl) (fun _ _ _ h => h) (by rfl) (fun _ _ => by kernel_rfl) hS ?_
       simp only [Act.put, List.setIfInBounds_toArray, List.set_cons_zero, List.set_cons_succ]
       refine take_list (i := 69) (v := .bool true) rfl (by kernel_rfl) (by kernel_rfl) (by kernel_rfl) (fun _ _ _ h => h) (by rfl) (fun _ _ => by kernel_rfl) hS ?_
       simp only [Act.put, List.setIfInBounds_toArray, List.set_cons_zero, List.set_cons_succ]
       refine take_list (i := 70) (v := .bool true) rfl (by kernel_rfl) (by kernel_rfl) (by kernel_rfl) (fun _ _ _ h => h) (by rfl) (fun _ _ => by kernel_rfl) hS ?_
       simp only [Act.put, List.setIfInBounds_toArray, List.set_cons_zero, List.set_cons_succ]
       refine take_list (i := 71) (v := .bool true) rfl (by kernel_rfl) (by kernel_rfl) (by kernel_rfl) (fun _ _ _ h => h) (by rfl) (fun _ _ => by kernel_rfl) hS ?_
       simp only [Act.put, List.setIfInBounds_toArray, List.set_cons_zero, List.set_cons_succ]
       refine take_list (i := 72) (v := .int .i64 5) rfl (by kernel_rfl) (by kernel_rfl) (by kernel_rfl) (fun _ _ _ h => h) (by rfl) (fun _ _ => by kernel_rfl) hS ?_
       simp only [Act.put, List.setIfInBounds_toArray, List.set_cons_zero, List.set_cons_succ]
       refine take_list (i := 73) (v := .bool true) rfl (by kernel_rfl) (by kernel_rfl) (by kernel_rfl) (fun _ _ _ h => h) (by rfl) (fun _ _ => by kernel_rfl) hS ?_
       simp only [Act.put, List.setIfInBounds_toArray, List.set_cons_zero, List.set_cons_succ]
       refine take_list (i := 74) (v := .bool true) rfl (by kernel_rfl) (by kernel_rfl) (by kernel_rfl) (fun _ _ _ h => h) (by rfl) (fun _ _ => by kernel_rfl) hS ?_
       simp only [Act.put, List.setIfInBounds_toArray, List.set_cons_zero, List.set_cons_succ]
       refine take_list (i := 75) (v := .bool true) rfl (by kernel_rfl) (by kernel_rfl) (by kernel_rfl) (fun _ _ _ h => h) (by rfl) (fun _ _ => by kernel_rfl) hS ?_
       simp only [Act.put, List.setIfInBounds_toArray, List.set_cons_zero, List.set_cons_succ]
       as_aux_lemma =>
        refine take_list (i := 76) (v := .int .i64 0) rfl (by kernel_rfl) (by kernel_rfl) (by kernel_rfl) (fun _ _ _ h => h) (by rfl) (fun _ _ => by kernel_rfl) hS ?_
        simp only [Act.put, List.setIfInBounds_toArray, List.set_cons_zero, List.set_cons_succ]
        refine take_list (i := 77) (v := .bool true) rfl (by kernel_rfl) (by kernel_rfl) (by kernel_rfl) (fun _ _ _ h => h) (by rfl) (fun _ _ => by kernel_rfl) hS ?_
        simp only [Act.put, List.setIfInBounds_toArray, List.set_cons_zero, List.set_cons_succ]
        refine take_list (i := 78) (v := .bool true) rfl (by kernel_rfl) (by kernel_rfl) (by kernel_rfl) (fun _ _ _ h => h) (by rfl) (fun _ _ => by kernel_rfl) hS ?_
        simp only [Act.put, List.setIfInBounds_toArray, List.set_cons_zero, List.set_cons_succ]
        refine take_list (i := 79) (v := .bool true) rfl (by kernel_rfl) (by kernel_rfl) (by kernel_rfl) (fun _ _ _ h => h) (by rfl) (fun _ _ => by kernel_rfl) hS ?_
        simp only [Act.put, List.setIfInBounds_toArray, List.set_cons_zero, List.set_cons_succ]
        refine take_list (i := 80) (v := .int .i64 9) rfl (by kernel_rfl) (by kernel_rfl) (by kernel_rfl) (fun _ _ _ h => h) (by rfl) (fun _ _ => by kernel_rfl) hS ?_
        simp only [Act.put, List.setIfInBounds_toArray, List.set_cons_zero, List.set_cons_succ]
        refine take_list (i := 81) (v := .bool true) rfl (by kernel_rfl) (by kernel_rfl) (by kernel_rfl) (fun _ _ _ h => h) (by rfl) (fun _ _ => by kernel_rfl) hS ?_
        simp only [Act.put, List.setIfInBounds_toArray, List.set_cons_zero, List.set_cons_succ]
        refine take_list (i := 82) (v := .bool true) rfl (by kernel_rfl) (by kernel_rfl) (by kernel_rfl) (fun _ _ _ h => h) (by rfl) (fun _ _ => by kernel_rfl) hS ?_
        simp only [Act.put, List.setIfInBounds_toArray, List.set_cons_zero, List.set_cons_succ]
        refine take_list (i := 83) (v := .bool true) rfl (by kernel_rfl) (by kernel_rfl) (by kernel_rfl) (fun _ _ _ h => h) (by rfl) (fun _ _ => by kernel_rfl) hS ?_
        simp only [Act.put, List.setIfInBounds_toArray, List.set_cons_zero, List.set_cons_succ]
        refine take_list (i := 84) (v := .int .i64 10) rfl (by kernel_rfl) (by kernel_rfl) (by kernel_rfl) (fun _ _ _ h => h) (by rfl) (fun _ _ => by kernel_rfl) hS ?_
        simp only [Act.put, List.setIfInBounds_toArray, List.set_cons_zero, List.set_cons_succ]
        refine take_list (i := 85) (v := .bool true) rfl (by kernel_rfl) (by kernel_rfl) (by kernel_rfl) (fun _ _ _ h => h) (by rfl) (fun _ _ => by kernel_rfl) hS ?_
        simp only [Act.put, List.setIfInBounds_toArray, List.set_cons_zero, List.set_cons_succ]
        refine take_list (i := 86) (v := .bool true) rfl (by kernel_rfl) (by kernel_rfl) (by kernel_rfl) (fun _ _ _ h => h) (by rfl) (fun _ _ => by kernel_rfl) hS ?_
        simp only [Act.put, List.setIfInBounds_toArray, List.set_cons_zero, List.set_cons_succ]
        refine take_list (i := 87) (v := .bool true) rfl (by kernel_rfl) (by kernel_rfl) (by kernel_rfl) (fun _ _ _ h => h) (by rfl) (fun _ _ => by kernel_rfl) hS ?_
        simp only [Act.put, List.setIfInBounds_toArray, List.set_cons_zero, List.set_cons_succ]
        refine step_list (i := 88) (by kernel_rfl) rfl (by rfl) (fun K hK => ?_)
        go_simp
        refine (works_any _).mono ?_
        rintro e wq6 ⟨rfl, hb⟩
        have hS2 := hS.trans (hb.mono hS.size)
        refine hK _ _ hS2 ?_
        clear hK K hS
        have hS := hS2
        clear hS2
        clear hb
        refine take_list (i := 89) (v := .bool true) rfl (by kernel_rfl) (by kernel_rfl) (by kernel_rfl) (fun _ _ _ h => h) (by rfl) (fun _ _ => by kernel_rfl) hS ?_
        simp only [Act.put, List.setIfInBounds_toArray, List.set_cons_zero, List.set_cons_succ]
        refine take_list (i := 90) (v := .bool true) rfl (by kernel_rfl) (by kernel_rfl) (by kernel_rfl) (fun _ _ _ h => h) (by rfl) (fun _ _ => by kernel_rfl) hS ?_
        simp only [Act.put, List.setIfInBounds_toArray, List.set_cons_zero, List.set_cons_succ]
        refine wpAnyH_done (by kernel_rfl) ?_ _
        have HS := Lib.hid hS
        clear hS b0 b1
        go_wp2
        go_ret
        exact ⟨rfl, H16.out.2.trans (HS.out.mono H16.out.2.size)⟩

theorem peaveylaw10_CheckKnown.calls (r : Bool) (W : World) (h : ∀ W : World, Calls Try.prog 16 #[] W fun e w' => e = .returned (.bool r) ∧ Below W.heap.size W w') : Calls Try.prog 16 #[] W fun e w' => e = .returned (.bool r) ∧ Below W.heap.size W w' := h W
end Go.Proofs.Ytmgdidhhgdpobaa.Pkn
namespace Go.Proofs.Ytmgdidhhgdpobaa.Pure
set_option linter.unusedVariables false
set_option linter.unusedSimpArgs false
open Go.RowKit
theorem CheckKnown : ∀ W : World, Calls Try.prog 16 #[] W fun e w' => e = .returned (.bool true) ∧ Below W.heap.size W w' := Pkn.known_any
end Go.Proofs.Ytmgdidhhgdpobaa.Pure
