/- The machine's side of some functions: each Go function as a plain Lean function, and a proof that its call comes to what that says. Written by a program of the session's over the kit's print. -/
import Derived.Test.YtmgdidhhgdpobaaPpart0
namespace Go.Proofs.Ytmgdidhhgdpobaa.Ppart
open Go.RowKit Go.Proofs.YtmgdidhhgdpobaaW.PrintWords Go.Proofs.YtmgdidhhgdpobaaW.PrintLast Go.Proofs.YtmgdidhhgdpobaaW.PrintMore Go.Proofs.Ytmgdidhhgdpobaa.Hand Go.Proofs.Ytmgdidhhgdpobaa.PrA Go.Proofs.Ytmgdidhhgdpobaa.PrR Go.Proofs.Ytmgdidhhgdpobaa.PrD Go.Proofs.Ytmgdidhhgdpobaa.PrC
attribute [local go_sem] max2_int min2_int max_two min_two max_three min_three max_four min_four   -- for this text's walks alone
set_option linter.unusedVariables false
set_option linter.unusedSimpArgs false

-- GIVEN: function 19 (check_Samples)

-- GIVEN: function 25 (peaveylaw10_Works)

-- GIVEN: function 43 (peaveylaw10_boom)

-- GIVEN: function 50 (peaveyref10_Just)

/-! ### peaveylaw10_CheckParted: function 15 -/
mutual
def peaveylaw10_CheckParted.l0 : Nat → Int → Int → Int → Int → Int → Int → Int → Int → Option (Bool)
  | 0, _, _, _, _, _, _, _, _ => none
  | k + 1, x13, x15, x16, x17, x18, x19, x20, x21 => if x21 ≤ (mn x15 x17) then (peaveylaw10_CheckParted.l1 k x13 x15 x16 x17 x18 x19 x20 x21 (mx 0 (wrap64 (x16 - (wrap64 (x15 - x21)))))) else ((check_Samples.f x13 (wrap64 (x18 + x19)) x15 x16).bind fun bt106 => (if bt106.2 = 0 then (if bt106.1 = x20 then ((peaveylaw10_Works.f).bind fun t108 => (some t108)) else (some false)) else (some false)))
def peaveylaw10_CheckParted.l1 : Nat → Int → Int → Int → Int → Int → Int → Int → Int → Int → Option (Bool)
  | 0, _, _, _, _, _, _, _, _, _ => none
  | k + 1, x13, x15, x16, x17, x18, x19, x20, x21, x22 => if x22 ≤ (mn x16 x21) then ((check_Samples.f x17 x18 x21 x22).bind fun bt109 => ((check_Samples.f (wrap64 (x13 - x17)) x19 (wrap64 (x15 - x21)) (wrap64 (x16 - x22))).bind fun bt111 => (if bt109.2 = 0 then (if bt111.2 = 0 then ((peaveyref10_Just.f k x17 x18 x21 x22).bind fun t113 => (if bt109.1 = t113 then ((peaveyref10_Just.f k (wrap64 (x13 - x17)) x19 (wrap64 (x15 - x21)) (wrap64 (x16 - x22))).bind fun t114 => (if bt111.1 = t114 then (peaveylaw10_CheckParted.l1 k x13 x15 x16 x17 x18 x19 (wrap64 (x20 + (wrap64 (bt109.1 * bt111.1)))) x21 (wrap64 (x22 + 1))) else (some false))) else (some false))) else (some false)) else (some false)))) else (peaveylaw10_CheckParted.l0 k x13 x15 x16 x17 x18 x19 x20 (wrap64 (x21 + 1)))
end
def peaveylaw10_CheckParted.f (k : Nat) (a0 : Int) (a1 : Int) (a2 : Int) (a3 : Int) (a4 : Int) (a5 : Int) : Option (Bool) := (peaveylaw10_boom.f a0 0 a4 a5).bind fun bt101 => (if bt101.1 < 2 then ((peaveylaw10_Works.f).bind fun t105 => (some t105)) else (if (wrap64 (bt101.1 - 1)) = 0 then (none) else (if (wrap64 ((wrap64 (1 + (Int.tmod (wrap64 (a1)) (wrap64 (bt101.1 - 1))))) + 1)) = 0 then (none) else (if (wrap64 ((wrap64 (bt101.1 - (wrap64 (1 + (Int.tmod (wrap64 (a1)) (wrap64 (bt101.1 - 1))))))) + 1)) = 0 then (none) else (peaveylaw10_CheckParted.l0 k bt101.1 bt101.2.2.1 bt101.2.2.2 (wrap64 (1 + (Int.tmod (wrap64 (a1)) (wrap64 (bt101.1 - 1))))) (Int.tmod (wrap64 (a2)) (wrap64 ((wrap64 (1 + (Int.tmod (wrap64 (a1)) (wrap64 (bt101.1 - 1))))) + 1))) (Int.tmod (wrap64 (a3)) (wrap64 ((wrap64 (bt101.1 - (wrap64 (1 + (Int.tmod (wrap64 (a1)) (wrap64 (bt101.1 - 1))))))) + 1))) 0 (mx 0 (wrap64 (bt101.2.2.1 - (wrap64 (bt101.1 - (wrap64 (1 + (Int.tmod (wrap64 (a1)) (wrap64 (bt101.1 - 1)))))))))))))))
theorem peaveylaw10_CheckParted.mono_l : ∀ k, (∀ y0 y1 y2 y3 y4 y5 y6 y7, LeO (peaveylaw10_CheckParted.l0 k y0 y1 y2 y3 y4 y5 y6 y7) (peaveylaw10_CheckParted.l0 (k + 1) y0 y1 y2 y3 y4 y5 y6 y7)) ∧ (∀ y0 y1 y2 y3 y4 y5 y6 y7 y8, LeO (peaveylaw10_CheckParted.l1 k y0 y1 y2 y3 y4 y5 y6 y7 y8) (peaveylaw10_CheckParted.l1 (k + 1) y0 y1 y2 y3 y4 y5 y6 y7 y8))
  | 0 => ⟨fun _ _ _ _ _ _ _ _ r h => by simp [peaveylaw10_CheckParted.l0] at h, fun _ _ _ _ _ _ _ _ _ r h => by simp [peaveylaw10_CheckParted.l1] at h⟩
  | k + 1 => by
    obtain ⟨ih0, ih1⟩ := peaveylaw10_CheckParted.mono_l k
    refine ⟨?_, ?_⟩
    · intro y0 y1 y2 y3 y4 y5 y6 y7
      unfold peaveylaw10_CheckParted.l0
      repeat' first
      | (with_reducible exact ih0 _ _ _ _ _ _ _ _)
      | (with_reducible exact ih1 _ _ _ _ _ _ _ _ _)
      | (with_reducible exact peaveyref10_Just.mono _ _ _ _ _)
      | (with_reducible exact LeO.refl _)
      | (with_reducible exact LeO.none _)
      | (with_reducible refine LeO.ite ?_ ?_)
      | (with_reducible refine LeO.bind ?_ (fun _ => ?_))
      | exact ih0 _ _ _ _ _ _ _ _
      | exact ih1 _ _ _ _ _ _ _ _ _
      | exact peaveyref10_Just.mono _ _ _ _ _
      | exact LeO.none _
      | refine LeO.ite ?_ ?_
      | refine LeO.bind ?_ (fun _ => ?_)
    · intro y0 y1 y2 y3 y4 y5 y6 y7 y8
      unfold peaveylaw10_CheckParted.l1
      repeat' first
      | (with_reducible exact ih0 _ _ _ _ _ _ _ _)
      | (with_reducible exact ih1 _ _ _ _ _ _ _ _ _)
      | (with_reducible exact peaveyref10_Just.mono _ _ _ _ _)
      | (with_reducible exact LeO.refl _)
      | (with_reducible exact LeO.none _)
      | (with_reducible refine LeO.ite ?_ ?_)
      | (with_reducible refine LeO.bind ?_ (fun _ => ?_))
      | exact ih0 _ _ _ _ _ _ _ _
      | exact ih1 _ _ _ _ _ _ _ _ _
      | exact peaveyref10_Just.mono _ _ _ _ _
      | exact LeO.none _
      | refine LeO.ite ?_ ?_
      | refine LeO.bind ?_ (fun _ => ?_)
theorem peaveylaw10_CheckParted.mono : ∀ a0 a1 a2 a3 a4 a5 k, LeO (peaveylaw10_CheckParted.f k a0 a1 a2 a3 a4 a5) (peaveylaw10_CheckParted.f (k + 1) a0 a1 a2 a3 a4 a5) := by
  intro a0 a1 a2 a3 a4 a5 k
  obtain ⟨ih0, ih1⟩ := peaveylaw10_CheckParted.mono_l k
  unfold peaveylaw10_CheckParted.f
  repeat' first
      | (with_reducible exact ih0 _ _ _ _ _ _ _ _)
      | (with_reducible exact ih1 _ _ _ _ _ _ _ _ _)
      | (with_reducible exact peaveyref10_Just.mono _ _ _ _ _)
      | (with_reducible exact LeO.refl _)
      | (with_reducible exact LeO.none _)
      | (with_reducible refine LeO.ite ?_ ?_)
      | (with_reducible refine LeO.bind ?_ (fun _ => ?_))
      | exact ih0 _ _ _ _ _ _ _ _
      | exact ih1 _ _ _ _ _ _ _ _ _
      | exact peaveyref10_Just.mono _ _ _ _ _
      | exact LeO.none _
      | refine LeO.ite ?_ ?_
      | refine LeO.bind ?_ (fun _ => ?_)
set_option maxHeartbeats 8000000 in
set_option maxRecDepth 100000 in
theorem peaveylaw10_CheckParted.calls (k : Nat) (a0 : Int) (a1 : Int) (a2 : Int) (a3 : Int) (a4 : Int) (a5 : Int) (r : Bool) (w : World) (h : peaveylaw10_CheckParted.f k a0 a1 a2 a3 a4 a5 = some r) :
    Calls Try.prog 15 #[.int .u8 a0, .int .u8 a1, .int .u8 a2, .int .u8 a3, .int .u8 a4, .int .u8 a5] w fun e w' => e = .returned (.bool r) ∧ Below w.heap.size w w' := by
  have HB := Aside0.mk (Below.refl w.heap.size w)
  have H : ((peaveylaw10_boom.f a0 0 a4 a5).bind fun bt101 => (if bt101.1 < 2 then ((peaveylaw10_Works.f).bind fun t105 => (some t105)) else (if (wrap64 (bt101.1 - 1)) = 0 then (none) else (if (wrap64 ((wrap64 (1 + (Int.tmod (wrap64 (a1)) (wrap64 (bt101.1 - 1))))) + 1)) = 0 then (none) else (if (wrap64 ((wrap64 (bt101.1 - (wrap64 (1 + (Int.tmod (wrap64 (a1)) (wrap64 (bt101.1 - 1))))))) + 1)) = 0 then (none) else (peaveylaw10_CheckParted.l0 k bt101.1 bt101.2.2.1 bt101.2.2.2 (wrap64 (1 + (Int.tmod (wrap64 (a1)) (wrap64 (bt101.1 - 1))))) (Int.tmod (wrap64 (a2)) (wrap64 ((wrap64 (1 + (Int.tmod (wrap64 (a1)) (wrap64 (bt101.1 - 1))))) + 1))) (Int.tmod (wrap64 (a3)) (wrap64 ((wrap64 (bt101.1 - (wrap64 (1 + (Int.tmod (wrap64 (a1)) (wrap64 (bt101.1 - 1))))))) + 1))) 0 (mx 0 (wrap64 (bt101.2.2.1 - (wrap64 (bt101.1 - (wrap64 (1 + (Int.tmod (wrap64 (a1)) (wrap64 (bt101.1 - 1)))))))))))))))) = some r := h
  clear h
  replace H := Option.bind_eq_some_iff.mp H
  obtain ⟨⟨t101, t102, t103, t104⟩, A70, H⟩ := H
  replace H : (if t101 < 2 then ((peaveylaw10_Works.f).bind fun t105 => (some t105)) else (if (wrap64 (t101 - 1)) = 0 then (none) else (if (wrap64 ((wrap64 (1 + (Int.tmod (wrap64 (a1)) (wrap64 (t101 - 1))))) + 1)) = 0 then (none) else (if (wrap64 ((wrap64 (t101 - (wrap64 (1 + (Int.tmod (wrap64 (a1)) (wrap64 (t101 - 1))))))) + 1)) = 0 then (none) else (peaveylaw10_CheckParted.l0 k t101 t103 t104 (wrap64 (1 + (Int.tmod (wrap64 (a1)) (wrap64 (t101 - 1))))) (Int.tmod (wrap64 (a2)) (wrap64 ((wrap64 (1 + (Int.tmod (wrap64 (a1)) (wrap64 (t101 - 1))))) + 1))) (Int.tmod (wrap64 (a3)) (wrap64 ((wrap64 (t101 - (wrap64 (1 + (Int.tmod (wrap64 (a1)) (wrap64 (t101 - 1))))))) + 1))) 0 (mx 0 (wrap64 (t103 - (wrap64 (t101 - (wrap64 (1 + (Int.tmod (wrap64 (a1)) (wrap64 (t101 - 1))))))))))))))) = some r := H
  have A7 := Aside0.mk A70
  clear A70
  by_cases c8 : t101 < 2
  · rw [if_pos c8] at H
    have c8b0 : decide (t101 < 2) = true := decide_eq_true c8
    clear c8
    replace H := Option.bind_eq_some_iff.mp H
    obtain ⟨t105, A90, H⟩ := H
    replace H : (some t105) = some r := H
    have A9 := Aside0.mk A90
    clear A90
    obtain rfl := Option.some.inj H
    go_enter Try.func15, Try.ntmps15
    go_wp2_with (first | (go_at_call 43; (with_reducible refine (peaveylaw10_boom.calls a0 0 a4 a5 t101 t102 t103 t104 _ A7.out).mono ?_); rintro e w' ⟨rfl, ⟨nd, rfl⟩⟩; (try first | exact ⟨rfl, _, World.drewN_drewN _ _ _⟩ | exact ⟨rfl, _, Eq.trans (World.drewN_drewN _ _ _) (congrArg (World.drewN _) (Nat.add_assoc _ _ _))⟩)) | (go_at_call 25; (with_reducible refine (peaveylaw10_Works.calls  t105 _ A9.out).mono ?_); rintro e w10 ⟨rfl, hb⟩; have n0_ := Aside0.mk (below_step (by repeat (first | (with_reducible first | exact HB.out | apply below_alloc | apply pw_below_drewN | apply below_drew1) | exact HB.out)) hb); clear HB; have HB := n0_; clear n0_; (try clear hb); (try clear hb2); (try clear hk); (try clear hi)))
    repeat (go_quiet (first | (go_at_call 43; (with_reducible refine (peaveylaw10_boom.calls a0 0 a4 a5 t101 t102 t103 t104 _ A7.out).mono ?_); rintro e w' ⟨rfl, ⟨nd, rfl⟩⟩; (try first | exact ⟨rfl, _, World.drewN_drewN _ _ _⟩ | exact ⟨rfl, _, Eq.trans (World.drewN_drewN _ _ _) (congrArg (World.drewN _) (Nat.add_assoc _ _ _))⟩)) | (go_at_call 25; (with_reducible refine (peaveylaw10_Works.calls  t105 _ A9.out).mono ?_); rintro e w10 ⟨rfl, hb⟩; have n0_ := Aside0.mk (below_step (by repeat (first | (with_reducible first | exact HB.out | apply below_alloc | apply pw_below_drewN | apply below_drew1) | exact HB.out)) hb); clear HB; have HB := n0_; clear n0_; (try clear hb); (try clear hb2); (try clear hk); (try clear hi))); try go_wp2_with (first | (go_at_call 43; (with_reducible refine (peaveylaw10_boom.calls a0 0 a4 a5 t101 t102 t103 t104 _ A7.out).mono ?_); rintro e w' ⟨rfl, ⟨nd, rfl⟩⟩; (try first | exact ⟨rfl, _, World.drewN_drewN _ _ _⟩ | exact ⟨rfl, _, Eq.trans (World.drewN_drewN _ _ _) (congrArg (World.drewN _) (Nat.add_assoc _ _ _))⟩)) | (go_at_call 25; (with_reducible refine (peaveylaw10_Works.calls  t105 _ A9.out).mono ?_); rintro e w10 ⟨rfl, hb⟩; have n0_ := Aside0.mk (below_step (by repeat (first | (with_reducible first | exact HB.out | apply below_alloc | apply pw_below_drewN | apply below_drew1) | exact HB.out)) hb); clear HB; have HB := n0_; clear n0_; (try clear hb); (try clear hb2); (try clear hk); (try clear hi))))
    go_ret
    exact ⟨by first | rfl | (simp [errW_none, errW_some] <;> rfl) | (simp [*, errW_none, errW_some] <;> rfl), by repeat (first | (with_reducible first | exact HB.out | apply below_alloc | apply pw_below_drewN | apply below_drew1) | exact HB.out)⟩
  · rw [if_neg c8] at H
    have c8b0 : decide (t101 < 2) = false := decide_eq_false c8
    clear c8
    by_cases c11 : (wrap64 (t101 - 1)) = 0
    · rw [if_pos c11] at H
      exact absurd H (by simp)
    · rw [if_neg c11] at H
      have c11b0 : ((wrap64 (t101 - 1)) == 0) = false := beq_eq_false_iff_ne.mpr c11
      have c11b1 : ((wrap64 (t101 - 1)) != 0) = true := bne_iff_ne.mpr c11
      by_cases c12 : (wrap64 ((wrap64 (1 + (Int.tmod (wrap64 (a1)) (wrap64 (t101 - 1))))) + 1)) = 0
      · rw [if_pos c12] at H
        exact absurd H (by simp)
      · rw [if_neg c12] at H
        have c12b0 : ((wrap64 ((wrap64 (1 + (Int.tmod (wrap64 (a1)) (wrap64 (t101 - 1))))) + 1)) == 0) = false := beq_eq_false_iff_ne.mpr c12
        have c12b1 : ((wrap64 ((wrap64 (1 + (Int.tmod (wrap64 (a1)) (wrap64 (t101 - 1))))) + 1)) != 0) = true := bne_iff_ne.mpr c12
        by_cases c13 : (wrap64 ((wrap64 (t101 - (wrap64 (1 + (Int.tmod (wrap64 (a1)) (wrap64 (t101 - 1))))))) + 1)) = 0
        · rw [if_pos c13] at H
          exact absurd H (by simp)
        · rw [if_neg c13] at H
          have c13b0 : ((wrap64 ((wrap64 (t101 - (wrap64 (1 + (Int.tmod (wrap64 (a1)) (wrap64 (t101 - 1))))))) + 1)) == 0) = false := beq_eq_false_iff_ne.mpr c13
          have c13b1 : ((wrap64 ((wrap64 (t101 - (wrap64 (1 + (Int.tmod (wrap64 (a1)) (wrap64 (t101 - 1))))))) + 1)) != 0) = true := bne_iff_ne.mpr c13
          obtain ⟨ji14, hji14⟩ : ∃ j_ : Int, (mx 0 (wrap64 (t103 - (wrap64 (t101 - (wrap64 (1 + (Int.tmod (wrap64 (a1)) (wrap64 (t101 - 1)))))))))) = j_ := ⟨_, rfl⟩
          replace H : (peaveylaw10_CheckParted.l0 k t101 t103 t104 (wrap64 (1 + (Int.tmod (wrap64 (a1)) (wrap64 (t101 - 1))))) (Int.tmod (wrap64 (a2)) (wrap64 ((wrap64 (1 + (Int.tmod (wrap64 (a1)) (wrap64 (t101 - 1))))) + 1))) (Int.tmod (wrap64 (a3)) (wrap64 ((wrap64 (t101 - (wrap64 (1 + (Int.tmod (wrap64 (a1)) (wrap64 (t101 - 1))))))) + 1))) 0 ji14) = some r := by first | (rw [hji14] at H; exact H) | (simp only [hji14] at H ⊢; exact H)
          (try rw [hji14] at A7)
          (try (have hji14l : 0 ≤ ji14 := by (rw [← hji14]; unfold mx; (repeat' split) <;> omega)))
          (try (have hji14m : 0 ≤ ji14 := by omega))
          have hji14_ : (if 0 < (wrap64 (t103 - (wrap64 (t101 - (wrap64 (1 + (Int.tmod (wrap64 (a1)) (wrap64 (t101 - 1))))))))) then (wrap64 (t103 - (wrap64 (t101 - (wrap64 (1 + (Int.tmod (wrap64 (a1)) (wrap64 (t101 - 1))))))))) else 0) = ji14 := hji14
          have H' := Aside0.mk H
          clear H
          go_enter Try.func15, Try.ntmps15
          go_wp2_with (first | (go_at_call 43; (with_reducible refine (peaveylaw10_boom.calls a0 0 a4 a5 t101 t102 t103 t104 _ A7.out).mono ?_); rintro e w' ⟨rfl, ⟨nd, rfl⟩⟩; (try first | exact ⟨rfl, _, World.drewN_drewN _ _ _⟩ | exact ⟨rfl, _, Eq.trans (World.drewN_drewN _ _ _) (congrArg (World.drewN _) (Nat.add_assoc _ _ _))⟩)))
          repeat (go_quiet (first | (go_at_call 43; (with_reducible refine (peaveylaw10_boom.calls a0 0 a4 a5 t101 t102 t103 t104 _ A7.out).mono ?_); rintro e w' ⟨rfl, ⟨nd, rfl⟩⟩; (try first | exact ⟨rfl, _, World.drewN_drewN _ _ _⟩ | exact ⟨rfl, _, Eq.trans (World.drewN_drewN _ _ _) (congrArg (World.drewN _) (Nat.add_assoc _ _ _))⟩))); try go_wp2_with (first | (go_at_call 43; (with_reducible refine (peaveylaw10_boom.calls a0 0 a4 a5 t101 t102 t103 t104 _ A7.out).mono ?_); rintro e w' ⟨rfl, ⟨nd, rfl⟩⟩; (try first | exact ⟨rfl, _, World.drewN_drewN _ _ _⟩ | exact ⟨rfl, _, Eq.trans (World.drewN_drewN _ _ _) (congrArg (World.drewN _) (Nat.add_assoc _ _ _))⟩))))
          go_loopg [20, 21] k (fun kq v20 v21 w' => ∃ (x20_1 : Int) (x21_1 : Int), v20 = .int .i64 x20_1 ∧ v21 = .int .i64 x21_1 ∧ Aside0 (peaveylaw10_CheckParted.l0 kq t101 t103 t104 (wrap64 (1 + (Int.tmod (wrap64 (a1)) (wrap64 (t101 - 1))))) (Int.tmod (wrap64 (a2)) (wrap64 ((wrap64 (1 + (Int.tmod (wrap64 (a1)) (wrap64 (t101 - 1))))) + 1))) (Int.tmod (wrap64 (a3)) (wrap64 ((wrap64 (t101 - (wrap64 (1 + (Int.tmod (wrap64 (a1)) (wrap64 (t101 - 1))))))) + 1))) x20_1 x21_1 = some r) ∧ Aside0 (kq ≤ k) ∧ Aside0 (Below w.heap.size w w'))
          case atStart => exact ⟨(0), (ji14), (by first | rfl | (simp; done) | (simp [*]; done)), (by first | rfl | (simp; done) | (simp only [← hji14] <;> (first | rfl | simp)) | (simp [*]; done)), H', ⟨Nat.le_refl _⟩, ⟨by repeat (first | (with_reducible first | exact HB.out | apply below_alloc | apply pw_below_drewN | apply below_drew1) | exact HB.out)⟩⟩
          case round =>
            clear H'
            try clear c1
            try clear p2
            try clear p6
            try clear c8
            try clear c8b0
            try clear c11
            try clear c11b0
            try clear c11b1
            try clear c12
            try clear c12b0
            try clear c12b1
            try clear c13
            try clear c13b0
            try clear c13b1
            obtain ⟨x20_1, x21_1, rfl, rfl, HA, HK1, HB⟩ := hrel
            cases gk with
            | zero => exact absurd HA.out (by simp [peaveylaw10_CheckParted.l0])
            | succ k1 =>
              have H := HA.out
              clear HA
              simp only [peaveylaw10_CheckParted.l0] at H
              obtain ⟨ji15, hji15⟩ : ∃ j_ : Int, (mn t103 (wrap64 (1 + (Int.tmod (wrap64 (a1)) (wrap64 (t101 - 1)))))) = j_ := ⟨_, rfl⟩
              replace H : (if x21_1 ≤ (ji15) then (peaveylaw10_CheckParted.l1 k1 t101 t103 t104 (wrap64 (1 + (Int.tmod (wrap64 (a1)) (wrap64 (t101 - 1))))) (Int.tmod (wrap64 (a2)) (wrap64 ((wrap64 (1 + (Int.tmod (wrap64 (a1)) (wrap64 (t101 - 1))))) + 1))) (Int.tmod (wrap64 (a3)) (wrap64 ((wrap64 (t101 - (wrap64 (1 + (Int.tmod (wrap64 (a1)) (wrap64 (t101 - 1))))))) + 1))) x20_1 x21_1 (mx 0 (wrap64 (t104 - (wrap64 (t103 - x21_1)))))) else ((check_Samples.f t101 (wrap64 ((Int.tmod (wrap64 (a2)) (wrap64 ((wrap64 (1 + (Int.tmod (wrap64 (a1)) (wrap64 (t101 - 1))))) + 1))) + (Int.tmod (wrap64 (a3)) (wrap64 ((wrap64 (t101 - (wrap64 (1 + (Int.tmod (wrap64 (a1)) (wrap64 (t101 - 1))))))) + 1))))) t103 t104).bind fun bt106 => (if bt106.2 = 0 then (if bt106.1 = x20_1 then ((peaveylaw10_Works.f).bind fun t108 => (some t108)) else (some false)) else (some false)))) = some r := by first | (rw [hji15] at H; exact H) | (simp only [hji15] at H ⊢; exact H)
              have hji15_ : (if (wrap64 (1 + (Int.tmod (wrap64 (a1)) (wrap64 (t101 - 1))))) < t103 then (wrap64 (1 + (Int.tmod (wrap64 (a1)) (wrap64 (t101 - 1))))) else t103) = ji15 := hji15
              by_cases c16 : x21_1 ≤ (ji15)
              · rw [if_pos c16] at H
                have c16b0 : decide (x21_1 ≤ (ji15)) = true := decide_eq_true c16
                clear c16
                obtain ⟨ji17, hji17⟩ : ∃ j_ : Int, (mx 0 (wrap64 (t104 - (wrap64 (t103 - x21_1))))) = j_ := ⟨_, rfl⟩
                replace H : (peaveylaw10_CheckParted.l1 k1 t101 t103 t104 (wrap64 (1 + (Int.tmod (wrap64 (a1)) (wrap64 (t101 - 1))))) (Int.tmod (wrap64 (a2)) (wrap64 ((wrap64 (1 + (Int.tmod (wrap64 (a1)) (wrap64 (t101 - 1))))) + 1))) (Int.tmod (wrap64 (a3)) (wrap64 ((wrap64 (t101 - (wrap64 (1 + (Int.tmod (wrap64 (a1)) (wrap64 (t101 - 1))))))) + 1))) x20_1 x21_1 ji17) = some r := by first | (rw [hji17] at H; exact H) | (simp only [hji17] at H ⊢; exact H)
                have hji17_ : (if 0 < (wrap64 (t104 - (wrap64 (t103 - x21_1)))) then (wrap64 (t104 - (wrap64 (t103 - x21_1)))) else 0) = ji17 := hji17
                have H' := Aside0.mk H
                clear H
                go_wp2
                repeat (go_quiet (fail); try go_wp2)
                go_loopg [20, 22] k1 (fun kq v20 v22 w' => ∃ (x20_2 : Int) (x22_2 : Int), v20 = .int .i64 x20_2 ∧ v22 = .int .i64 x22_2 ∧ Aside0 (peaveylaw10_CheckParted.l1 kq t101 t103 t104 (wrap64 (1 + (Int.tmod (wrap64 (a1)) (wrap64 (t101 - 1))))) (Int.tmod (wrap64 (a2)) (wrap64 ((wrap64 (1 + (Int.tmod (wrap64 (a1)) (wrap64 (t101 - 1))))) + 1))) (Int.tmod (wrap64 (a3)) (wrap64 ((wrap64 (t101 - (wrap64 (1 + (Int.tmod (wrap64 (a1)) (wrap64 (t101 - 1))))))) + 1))) x20_2 x21_1 x22_2 = some r) ∧ Aside0 (kq ≤ k1) ∧ Aside0 (Below w.heap.size w w'))
                case atStart => exact ⟨(x20_1), (ji17), (by first | rfl | (simp; done) | (simp [*]; done)), (by first | rfl | (simp; done) | (simp only [← hji17] <;> (first | rfl | simp)) | (simp [*]; done)), H', ⟨Nat.le_refl _⟩, ⟨by repeat (first | (with_reducible first | exact HB.out | apply below_alloc | apply pw_below_drewN | apply below_drew1) | exact HB.out)⟩⟩
                case round =>
                  clear H'
                  try clear c1
                  try clear p2
                  try clear p6
                  try clear c8
                  try clear c8b0
                  try clear c11
                  try clear c11b0
                  try clear c11b1
                  try clear c12
                  try clear c12b0
                  try clear c12b1
                  try clear c13
                  try clear c13b0
                  try clear c13b1
                  try clear c15
                  try clear c16
                  try clear c16b0
                  try clear p2
                  try clear p6
                  obtain ⟨x20_2, x22_2, rfl, rfl, HA, HK2, HB⟩ := hrel
                  cases gk with
                  | zero => exact absurd HA.out (by simp [peaveylaw10_CheckParted.l1])
                  | succ k2 =>
                    have H := HA.out
                    clear HA
                    simp only [peaveylaw10_CheckParted.l1] at H
                    obtain ⟨ji18, hji18⟩ : ∃ j_ : Int, (mn t104 x21_1) = j_ := ⟨_, rfl⟩
                    replace H : (if x22_2 ≤ (ji18) then ((check_Samples.f (wrap64 (1 + (Int.tmod (wrap64 (a1)) (wrap64 (t101 - 1))))) (Int.tmod (wrap64 (a2)) (wrap64 ((wrap64 (1 + (Int.tmod (wrap64 (a1)) (wrap64 (t101 - 1))))) + 1))) x21_1 x22_2).bind fun bt109 => ((check_Samples.f (wrap64 (t101 - (wrap64 (1 + (Int.tmod (wrap64 (a1)) (wrap64 (t101 - 1))))))) (Int.tmod (wrap64 (a3)) (wrap64 ((wrap64 (t101 - (wrap64 (1 + (Int.tmod (wrap64 (a1)) (wrap64 (t101 - 1))))))) + 1))) (wrap64 (t103 - x21_1)) (wrap64 (t104 - x22_2))).bind fun bt111 => (if bt109.2 = 0 then (if bt111.2 = 0 then ((peaveyref10_Just.f k2 (wrap64 (1 + (Int.tmod (wrap64 (a1)) (wrap64 (t101 - 1))))) (Int.tmod (wrap64 (a2)) (wrap64 ((wrap64 (1 + (Int.tmod (wrap64 (a1)) (wrap64 (t101 - 1))))) + 1))) x21_1 x22_2).bind fun t113 => (if bt109.1 = t113 then ((peaveyref10_Just.f k2 (wrap64 (t101 - (wrap64 (1 + (Int.tmod (wrap64 (a1)) (wrap64 (t101 - 1))))))) (Int.tmod (wrap64 (a3)) (wrap64 ((wrap64 (t101 - (wrap64 (1 + (Int.tmod (wrap64 (a1)) (wrap64 (t101 - 1))))))) + 1))) (wrap64 (t103 - x21_1)) (wrap64 (t104 - x22_2))).bind fun t114 => (if bt111.1 = t114 then (peaveylaw10_CheckParted.l1 k2 t101 t103 t104 (wrap64 (1 + (Int.tmod (wrap64 (a1)) (wrap64 (t101 - 1))))) (Int.tmod (wrap64 (a2)) (wrap64 ((wrap64 (1 + (Int.tmod (wrap64 (a1)) (wrap64 (t101 - 1))))) + 1))) (Int.tmod (wrap64 (a3)) (wrap64 ((wrap64 (t101 - (wrap64 (1 + (Int.tmod (wrap64 (a1)) (wrap64 (t101 - 1))))))) + 1))) (wrap64 (x20_2 + (wrap64 (bt109.1 * bt111.1)))) x21_1 (wrap64 (x22_2 + 1))) else (some false))) else (some false))) else (some false)) else (some false)))) else (peaveylaw10_CheckParted.l0 k2 t101 t103 t104 (wrap64 (1 + (Int.tmod (wrap64 (a1)) (wrap64 (t101 - 1))))) (Int.tmod (wrap64 (a2)) (wrap64 ((wrap64 (1 + (Int.tmod (wrap64 (a1)) (wrap64 (t101 - 1))))) + 1))) (Int.tmod (wrap64 (a3)) (wrap64 ((wrap64 (t101 - (wrap64 (1 + (Int.tmod (wrap64 (a1)) (wrap64 (t101 - 1))))))) + 1))) x20_2 (wrap64 (x21_1 + 1)))) = some r := by first | (rw [hji18] at H; exact H) | (simp only [hji18] at H ⊢; exact H)
                    have hji18_ : (if x21_1 < t104 then x21_1 else t104) = ji18 := hji18
                    by_cases c19 : x22_2 ≤ (ji18)
                    · rw [if_pos c19] at H
                      have c19b0 : decide (x22_2 ≤ (ji18)) = true := decide_eq_true c19
                      clear c19
                      replace H := Option.bind_eq_some_iff.mp H
                      obtain ⟨⟨t109, t110⟩, A200, H⟩ := H
                      replace H : ((check_Samples.f (wrap64 (t101 - (wrap64 (1 + (Int.tmod (wrap64 (a1)) (wrap64 (t101 - 1))))))) (Int.tmod (wrap64 (a3)) (wrap64 ((wrap64 (t101 - (wrap64 (1 + (Int.tmod (wrap64 (a1)) (wrap64 (t101 - 1))))))) + 1))) (wrap64 (t103 - x21_1)) (wrap64 (t104 - x22_2))).bind fun bt111 => (if t110 = 0 then (if bt111.2 = 0 then ((peaveyref10_Just.f k2 (wrap64 (1 + (Int.tmod (wrap64 (a1)) (wrap64 (t101 - 1))))) (Int.tmod (wrap64 (a2)) (wrap64 ((wrap64 (1 + (Int.tmod (wrap64 (a1)) (wrap64 (t101 - 1))))) + 1))) x21_1 x22_2).bind fun t113 => (if t109 = t113 then ((peaveyref10_Just.f k2 (wrap64 (t101 - (wrap64 (1 + (Int.tmod (wrap64 (a1)) (wrap64 (t101 - 1))))))) (Int.tmod (wrap64 (a3)) (wrap64 ((wrap64 (t101 - (wrap64 (1 + (Int.tmod (wrap64 (a1)) (wrap64 (t101 - 1))))))) + 1))) (wrap64 (t103 - x21_1)) (wrap64 (t104 - x22_2))).bind fun t114 => (if bt111.1 = t114 then (peaveylaw10_CheckParted.l1 k2 t101 t103 t104 (wrap64 (1 + (Int.tmod (wrap64 (a1)) (wrap64 (t101 - 1))))) (Int.tmod (wrap64 (a2)) (wrap64 ((wrap64 (1 + (Int.tmod (wrap64 (a1)) (wrap64 (t101 - 1))))) + 1))) (Int.tmod (wrap64 (a3)) (wrap64 ((wrap64 (t101 - (wrap64 (1 + (Int.tmod (wrap64 (a1)) (wrap64 (t101 - 1))))))) + 1))) (wrap64 (x20_2 + (wrap64 (t109 * bt111.1)))) x21_1 (wrap64 (x22_2 + 1))) else (some false))) else (some false))) else (some false)) else (some false))) = some r := H
                      have A20 := Aside0.mk A200
                      clear A200
                      replace H := Option.bind_eq_some_iff.mp H
                      obtain ⟨⟨t111, t112⟩, A210, H⟩ := H
                      replace H : (if t110 = 0 then (if t112 = 0 then ((peaveyref10_Just.f k2 (wrap64 (1 + (Int.tmod (wrap64 (a1)) (wrap64 (t101 - 1))))) (Int.tmod (wrap64 (a2)) (wrap64 ((wrap64 (1 + (Int.tmod (wrap64 (a1)) (wrap64 (t101 - 1))))) + 1))) x21_1 x22_2).bind fun t113 => (if t109 = t113 then ((peaveyref10_Just.f k2 (wrap64 (t101 - (wrap64 (1 + (Int.tmod (wrap64 (a1)) (wrap64 (t101 - 1))))))) (Int.tmod (wrap64 (a3)) (wrap64 ((wrap64 (t101 - (wrap64 (1 + (Int.tmod (wrap64 (a1)) (wrap64 (t101 - 1))))))) + 1))) (wrap64 (t103 - x21_1)) (wrap64 (t104 - x22_2))).bind fun t114 => (if t111 = t114 then (peaveylaw10_CheckParted.l1 k2 t101 t103 t104 (wrap64 (1 + (Int.tmod (wrap64 (a1)) (wrap64 (t101 - 1))))) (Int.tmod (wrap64 (a2)) (wrap64 ((wrap64 (1 + (Int.tmod (wrap64 (a1)) (wrap64 (t101 - 1))))) + 1))) (Int.tmod (wrap64 (a3)) (wrap64 ((wrap64 (t101 - (wrap64 (1 + (Int.tmod (wrap64 (a1)) (wrap64 (t101 - 1))))))) + 1))) (wrap64 (x20_2 + (wrap64 (t109 * t111)))) x21_1 (wrap64 (x22_2 + 1))) else (some false))) else (some false))) else (some false)) else (some false)) = some r := H
                      have A21 := Aside0.mk A210
                      clear A210
                      by_cases c22 : t110 = 0
                      · rw [if_pos c22] at H
                        have c22b0 : (t110 == 0) = true := beq_iff_eq.mpr c22
                        have c22b1 : (t110 != 0) = false := bne_eq_false_iff_eq.mpr c22
                        clear c22
                        by_cases c23 : t112 = 0
                        · rw [if_pos c23] at H
                          have c23b0 : (t112 == 0) = true := beq_iff_eq.mpr c23
                          have c23b1 : (t112 != 0) = false := bne_eq_false_iff_eq.mpr c23
                          clear c23
                          replace H := Option.bind_eq_some_iff.mp H
                          obtain ⟨t113, A240, H⟩ := H
                          replace H : (if t109 = t113 then ((peaveyref10_Just.f k2 (wrap64 (t101 - (wrap64 (1 + (Int.tmod (wrap64 (a1)) (wrap64 (t101 - 1))))))) (Int.tmod (wrap64 (a3)) (wrap64 ((wrap64 (t101 - (wrap64 (1 + (Int.tmod (wrap64 (a1)) (wrap64 (t101 - 1))))))) + 1))) (wrap64 (t103 - x21_1)) (wrap64 (t104 - x22_2))).bind fun t114 => (if t111 = t114 then (peaveylaw10_CheckParted.l1 k2 t101 t103 t104 (wrap64 (1 + (Int.tmod (wrap64 (a1)) (wrap64 (t101 - 1))))) (Int.tmod (wrap64 (a2)) (wrap64 ((wrap64 (1 + (Int.tmod (wrap64 (a1)) (wrap64 (t101 - 1))))) + 1))) (Int.tmod (wrap64 (a3)) (wrap64 ((wrap64 (t101 - (wrap64 (1 + (Int.tmod (wrap64 (a1)) (wrap64 (t101 - 1))))))) + 1))) (wrap64 (x20_2 + (wrap64 (t109 * t111)))) x21_1 (wrap64 (x22_2 + 1))) else (some false))) else (some false)) = some r := H
                          have A24 := Aside0.mk A240
                          clear A240
                          by_cases c25 : t109 = t113
                          · rw [if_pos c25] at H
                            have c25b0 : (t109 == t113) = true := beq_iff_eq.mpr c25
                            have c25b1 : (t109 != t113) = false := bne_eq_false_iff_eq.mpr c25
                            clear c25
                            replace H := Option.bind_eq_some_iff.mp H
                            obtain ⟨t114, A260, H⟩ := H
                            replace H : (if t111 = t114 then (peaveylaw10_CheckParted.l1 k2 t101 t103 t104 (wrap64 (1 + (Int.tmod (wrap64 (a1)) (wrap64 (t101 - 1))))) (Int.tmod (wrap64 (a2)) (wrap64 ((wrap64 (1 + (Int.tmod (wrap64 (a1)) (wrap64 (t101 - 1))))) + 1))) (Int.tmod (wrap64 (a3)) (wrap64 ((wrap64 (t101 - (wrap64 (1 + (Int.tmod (wrap64 (a1)) (wrap64 (t101 - 1))))))) + 1))) (wrap64 (x20_2 + (wrap64 (t109 * t111)))) x21_1 (wrap64 (x22_2 + 1))) else (some false)) = some r := H
                            have A26 := Aside0.mk A260
                            clear A260
                            by_cases c27 : t111 = t114
                            · rw [if_pos c27] at H
                              have c27b0 : (t111 == t114) = true := beq_iff_eq.mpr c27
                              have c27b1 : (t111 != t114) = false := bne_eq_false_iff_eq.mpr c27
                              clear c27
                              have H' := Aside0.mk H
                              clear H
                              go_wp2_with (first | (go_at_call 19; (with_reducible refine (check_Samples.calls (wrap64 (1 + (Int.tmod (wrap64 (a1)) (wrap64 (t101 - 1))))) (Int.tmod (wrap64 (a2)) (wrap64 ((wrap64 (1 + (Int.tmod (wrap64 (a1)) (wrap64 (t101 - 1))))) + 1))) x21_1 x22_2 t109 t110 _ A20.out).mono ?_); rintro e w28 ⟨rfl, hb⟩; have n0_ := Aside0.mk (below_step (by repeat (first | (with_reducible first | exact HB.out | apply below_alloc | apply pw_below_drewN | apply below_drew1) | exact HB.out)) hb); clear HB; have HB := n0_; clear n0_; (try clear hb); (try clear hb2); (try clear hk); (try clear hi)) | (go_at_call 19; (with_reducible refine (check_Samples.calls (wrap64 (t101 - (wrap64 (1 + (Int.tmod (wrap64 (a1)) (wrap64 (t101 - 1))))))) (Int.tmod (wrap64 (a3)) (wrap64 ((wrap64 (t101 - (wrap64 (1 + (Int.tmod (wrap64 (a1)) (wrap64 (t101 - 1))))))) + 1))) (wrap64 (t103 - x21_1)) (wrap64 (t104 - x22_2)) t111 t112 _ A21.out).mono ?_); rintro e w29 ⟨rfl, hb⟩; have n0_ := Aside0.mk (below_step (by repeat (first | (with_reducible first | exact HB.out | apply below_alloc | apply pw_below_drewN | apply below_drew1) | exact HB.out)) hb); clear HB; have HB := n0_; clear n0_; (try clear hb); (try clear hb2); (try clear hk); (try clear hi)) | (go_at_call 50; (with_reducible refine (peaveyref10_Just.calls k2 (wrap64 (1 + (Int.tmod (wrap64 (a1)) (wrap64 (t101 - 1))))) (Int.tmod (wrap64 (a2)) (wrap64 ((wrap64 (1 + (Int.tmod (wrap64 (a1)) (wrap64 (t101 - 1))))) + 1))) x21_1 x22_2 t113 _ A24.out).mono ?_); rintro e w' ⟨rfl, ⟨nd, rfl⟩⟩; (try first | exact ⟨rfl, _, World.drewN_drewN _ _ _⟩ | exact ⟨rfl, _, Eq.trans (World.drewN_drewN _ _ _) (congrArg (World.drewN _) (Nat.add_assoc _ _ _))⟩)) | (go_at_call 50; (with_reducible refine (peaveyref10_Just.calls k2 (wrap64 (t101 - (wrap64 (1 + (Int.tmod (wrap64 (a1)) (wrap64 (t101 - 1))))))) (Int.tmod (wrap64 (a3)) (wrap64 ((wrap64 (t101 - (wrap64 (1 + (Int.tmod (wrap64 (a1)) (wrap64 (t101 - 1))))))) + 1))) (wrap64 (t103 - x21_1)) (wrap64 (t104 - x22_2)) t114 _ A26.out).mono ?_); rintro e w' ⟨rfl, ⟨nd, rfl⟩⟩; (try first | exact ⟨rfl, _, World.drewN_drewN _ _ _⟩ | exact ⟨rfl, _, Eq.trans (World.drewN_drewN _ _ _) (congrArg (World.drewN _) (Nat.add_assoc _ _ _))⟩)))
                              repeat (go_quiet (first | (go_at_call 19; (with_reducible refine (check_Samples.calls (wrap64 (1 + (Int.tmod (wrap64 (a1)) (wrap64 (t101 - 1))))) (Int.tmod (wrap64 (a2)) (wrap64 ((wrap64 (1 + (Int.tmod (wrap64 (a1)) (wrap64 (t101 - 1))))) + 1))) x21_1 x22_2 t109 t110 _ A20.out).mono ?_); rintro e w28 ⟨rfl, hb⟩; have n0_ := Aside0.mk (below_step (by repeat (first | (with_reducible first | exact HB.out | apply below_alloc | apply pw_below_drewN | apply below_drew1) | exact HB.out)) hb); clear HB; have HB := n0_; clear n0_; (try clear hb); (try clear hb2); (try clear hk); (try clear hi)) | (go_at_call 19; (with_reducible refine (check_Samples.calls (wrap64 (t101 - (wrap64 (1 + (Int.tmod (wrap64 (a1)) (wrap64 (t101 - 1))))))) (Int.tmod (wrap64 (a3)) (wrap64 ((wrap64 (t101 - (wrap64 (1 + (Int.tmod (wrap64 (a1)) (wrap64 (t101 - 1))))))) + 1))) (wrap64 (t103 - x21_1)) (wrap64 (t104 - x22_2)) t111 t112 _ A21.out).mono ?_); rintro e w29 ⟨rfl, hb⟩; have n0_ := Aside0.mk (below_step (by repeat (first | (with_reducible first | exact HB.out | apply below_alloc | apply pw_below_drewN | apply below_drew1) | exact HB.out)) hb); clear HB; have HB := n0_; clear n0_; (try clear hb); (try clear hb2); (try clear hk); (try clear hi)) | (go_at_call 50; (with_reducible refine (peaveyref10_Just.calls k2 (wrap64 (1 + (Int.tmod (wrap64 (a1)) (wrap64 (t101 - 1))))) (Int.tmod (wrap64 (a2)) (wrap64 ((wrap64 (1 + (Int.tmod (wrap64 (a1)) (wrap64 (t101 - 1))))) + 1))) x21_1 x22_2 t113 _ A24.out).mono ?_); rintro e w' ⟨rfl, ⟨nd, rfl⟩⟩; (try first | exact ⟨rfl, _, World.drewN_drewN _ _ _⟩ | exact ⟨rfl, _, Eq.trans (World.drewN_drewN _ _ _) (congrArg (World.drewN _) (Nat.add_assoc _ _ _))⟩)) | (go_at_call 50; (with_reducible refine (peaveyref10_Just.calls k2 (wrap64 (t101 - (wrap64 (1 + (Int.tmod (wrap64 (a1)) (wrap64 (t101 - 1))))))) (Int.tmod (wrap64 (a3)) (wrap64 ((wrap64 (t101 - (wrap64 (1 + (Int.tmod (wrap64 (a1)) (wrap64 (t101 - 1))))))) + 1))) (wrap64 (t103 - x21_1)) (wrap64 (t104 - x22_2)) t114 _ A26.out).mono ?_); rintro e w' ⟨rfl, ⟨nd, rfl⟩⟩; (try first | exact ⟨rfl, _, World.drewN_drewN _ _ _⟩ | exact ⟨rfl, _, Eq.trans (World.drewN_drewN _ _ _) (congrArg (World.drewN _) (Nat.add_assoc _ _ _))⟩))); try go_wp2_with (first | (go_at_call 19; (with_reducible refine (check_Samples.calls (wrap64 (1 + (Int.tmod (wrap64 (a1)) (wrap64 (t101 - 1))))) (Int.tmod (wrap64 (a2)) (wrap64 ((wrap64 (1 + (Int.tmod (wrap64 (a1)) (wrap64 (t101 - 1))))) + 1))) x21_1 x22_2 t109 t110 _ A20.out).mono ?_); rintro e w28 ⟨rfl, hb⟩; have n0_ := Aside0.mk (below_step (by repeat (first | (with_reducible first | exact HB.out | apply below_alloc | apply pw_below_drewN | apply below_drew1) | exact HB.out)) hb); clear HB; have HB := n0_; clear n0_; (try clear hb); (try clear hb2); (try clear hk); (try clear hi)) | (go_at_call 19; (with_reducible refine (check_Samples.calls (wrap64 (t101 - (wrap64 (1 + (Int.tmod (wrap64 (a1)) (wrap64 (t101 - 1))))))) (Int.tmod (wrap64 (a3)) (wrap64 ((wrap64 (t101 - (wrap64 (1 + (Int.tmod (wrap64 (a1)) (wrap64 (t101 - 1))))))) + 1))) (wrap64 (t103 - x21_1)) (wrap64 (t104 - x22_2)) t111 t112 _ A21.out).mono ?_); rintro e w29 ⟨rfl, hb⟩; have n0_ := Aside0.mk (below_step (by repeat (first | (with_reducible first | exact HB.out | apply below_alloc | apply pw_below_drewN | apply below_drew1) | exact HB.out)) hb); clear HB; have HB := n0_; clear n0_; (try clear hb); (try clear hb2); (try clear hk); (try clear hi)) | (go_at_call 50; (with_reducible refine (peaveyref10_Just.calls k2 (wrap64 (1 + (Int.tmod (wrap64 (a1)) (wrap64 (t101 - 1))))) (Int.tmod (wrap64 (a2)) (wrap64 ((wrap64 (1 + (Int.tmod (wrap64 (a1)) (wrap64 (t101 - 1))))) + 1))) x21_1 x22_2 t113 _ A24.out).mono ?_); rintro e w' ⟨rfl, ⟨nd, rfl⟩⟩; (try first | exact ⟨rfl, _, World.drewN_drewN _ _ _⟩ | exact ⟨rfl, _, Eq.trans (World.drewN_drewN _ _ _) (congrArg (World.drewN _) (Nat.add_assoc _ _ _))⟩)) | (go_at_call 50; (with_reducible refine (peaveyref10_Just.calls k2 (wrap64 (t101 - (wrap64 (1 + (Int.tmod (wrap64 (a1)) (wrap64 (t101 - 1))))))) (Int.tmod (wrap64 (a3)) (wrap64 ((wrap64 (t101 - (wrap64 (1 + (Int.tmod (wrap64 (a1)) (wrap64 (t101 - 1))))))) + 1))) (wrap64 (t103 - x21_1)) (wrap64 (t104 - x22_2)) t114 _ A26.out).mono ?_); rintro e w' ⟨rfl, ⟨nd, rfl⟩⟩; (try first | exact ⟨rfl, _, World.drewN_drewN _ _ _⟩ | exact ⟨rfl, _, Eq.trans (World.drewN_drewN _ _ _) (congrArg (World.drewN _) (Nat.add_assoc _ _ _))⟩))))
                              go_roundg k2
                              case measure => have := HK1.out; have := HK2.out; omega
                              case rel => exact ⟨(wrap64 (x20_2 + (wrap64 (t109 * t111)))), (wrap64 (x22_2 + 1)), (by first | rfl | (simp; done) | (simp [*]; done)), (by first | rfl | (simp; done) | (simp [*]; done)), H', ⟨by have := HK1.out; have := HK2.out; omega⟩, ⟨by repeat (first | (with_reducible first | exact HB.out | apply below_alloc | apply pw_below_drewN | apply below_drew1) | exact HB.out)⟩⟩
                            · rw [if_neg c27] at H
                              have c27b0 : (t111 == t114) = false := beq_eq_false_iff_ne.mpr c27
                              have c27b1 : (t111 != t114) = true := bne_iff_ne.mpr c27
                              obtain rfl := Option.some.inj H
                              go_wp2_with (first | (go_at_call 19; (with_reducible refine (check_Samples.calls (wrap64 (1 + (Int.tmod (wrap64 (a1)) (wrap64 (t101 - 1))))) (Int.tmod (wrap64 (a2)) (wrap64 ((wrap64 (1 + (Int.tmod (wrap64 (a1)) (wrap64 (t101 - 1))))) + 1))) x21_1 x22_2 t109 t110 _ A20.out).mono ?_); rintro e w30 ⟨rfl, hb⟩; have n0_ := Aside0.mk (below_step (by repeat (first | (with_reducible first | exact HB.out | apply below_alloc | apply pw_below_drewN | apply below_drew1) | exact HB.out)) hb); clear HB; have HB := n0_; clear n0_; (try clear hb); (try clear hb2); (try clear hk); (try clear hi)) | (go_at_call 19; (with_reducible refine (check_Samples.calls (wrap64 (t101 - (wrap64 (1 + (Int.tmod (wrap64 (a1)) (wrap64 (t101 - 1))))))) (Int.tmod (wrap64 (a3)) (wrap64 ((wrap64 (t101 - (wrap64 (1 + (Int.tmod (wrap64 (a1)) (wrap64 (t101 - 1))))))) + 1))) (wrap64 (t103 - x21_1)) (wrap64 (t104 - x22_2)) t111 t112 _ A21.out).mono ?_); rintro e w31 ⟨rfl, hb⟩; have n0_ := Aside0.mk (below_step (by repeat (first | (with_reducible first | exact HB.out | apply below_alloc | apply pw_below_drewN | apply below_drew1) | exact HB.out)) hb); clear HB; have HB := n0_; clear n0_; (try clear hb); (try clear hb2); (try clear hk); (try clear hi)) | (go_at_call 50; (with_reducible refine (peaveyref10_Just.calls k2 (wrap64 (1 + (Int.tmod (wrap64 (a1)) (wrap64 (t101 - 1))))) (Int.tmod (wrap64 (a2)) (wrap64 ((wrap64 (1 + (Int.tmod (wrap64 (a1)) (wrap64 (t101 - 1))))) + 1))) x21_1 x22_2 t113 _ A24.out).mono ?_); rintro e w' ⟨rfl, ⟨nd, rfl⟩⟩; (try first | exact ⟨rfl, _, World.drewN_drewN _ _ _⟩ | exact ⟨rfl, _, Eq.trans (World.drewN_drewN _ _ _) (congrArg (World.drewN _) (Nat.add_assoc _ _ _))⟩)) | (go_at_call 50; (with_reducible refine (peaveyref10_Just.calls k2 (wrap64 (t101 - (wrap64 (1 + (Int.tmod (wrap64 (a1)) (wrap64 (t101 - 1))))))) (Int.tmod (wrap64 (a3)) (wrap64 ((wrap64 (t101 - (wrap64 (1 + (Int.tmod (wrap64 (a1)) (wrap64 (t101 - 1))))))) + 1))) (wrap64 (t103 - x21_1)) (wrap64 (t104 - x22_2)) t114 _ A26.out).mono ?_); rintro e w' ⟨rfl, ⟨nd, rfl⟩⟩; (try first | exact ⟨rfl, _, World.drewN_drewN _ _ _⟩ | exact ⟨rfl, _, Eq.trans (World.drewN_drewN _ _ _) (congrArg (World.drewN _) (Nat.add_assoc _ _ _))⟩)))
                              repeat (go_quiet (first | (go_at_call 19; (with_reducible refine (check_Samples.calls (wrap64 (1 + (Int.tmod (wrap64 (a1)) (wrap64 (t101 - 1))))) (Int.tmod (wrap64 (a2)) (wrap64 ((wrap64 (1 + (Int.tmod (wrap64 (a1)) (wrap64 (t101 - 1))))) + 1))) x21_1 x22_2 t109 t110 _ A20.out).mono ?_); rintro e w30 ⟨rfl, hb⟩; have n0_ := Aside0.mk (below_step (by repeat (first | (with_reducible first | exact HB.out | apply below_alloc | apply pw_below_drewN | apply below_drew1) | exact HB.out)) hb); clear HB; have HB := n0_; clear n0_; (try clear hb); (try clear hb2); (try clear hk); (try clear hi)) | (go_at_call 19; (with_reducible refine (check_Samples.calls (wrap64 (t101 - (wrap64 (1 + (Int.tmod (wrap64 (a1)) (wrap64 (t101 - 1))))))) (Int.tmod (wrap64 (a3)) (wrap64 ((wrap64 (t101 - (wrap64 (1 + (Int.tmod (wrap64 (a1)) (wrap64 (t101 - 1))))))) + 1))) (wrap64 (t103 - x21_1)) (wrap64 (t104 - x22_2)) t111 t112 _ A21.out).mono ?_); rintro e w31 ⟨rfl, hb⟩; have n0_ := Aside0.mk (below_step (by repeat (first | (with_reducible first | exact HB.out | apply below_alloc | apply pw_below_drewN | apply below_drew1) | exact HB.out)) hb); clear HB; have HB := n0_; clear n0_; (try clear hb); (try clear hb2); (try clear hk); (try clear hi)) | (go_at_call 50; (with_reducible refine (peaveyref10_Just.calls k2 (wrap64 (1 + (Int.tmod (wrap64 (a1)) (wrap64 (t101 - 1))))) (Int.tmod (wrap64 (a2)) (wrap64 ((wrap64 (1 + (Int.tmod (wrap64 (a1)) (wrap64 (t101 - 1))))) + 1))) x21_1 x22_2 t113 _ A24.out).mono ?_); rintro e w' ⟨rfl, ⟨nd, rfl⟩⟩; (try first | exact ⟨rfl, _, World.drewN_drewN _ _ _⟩ | exact ⟨rfl, _, Eq.trans (World.drewN_drewN _ _ _) (congrArg (World.drewN _) (Nat.add_assoc _ _ _))⟩)) | (go_at_call 50; (with_reducible refine (peaveyref10_Just.calls k2 (wrap64 (t101 - (wrap64 (1 + (Int.tmod (wrap64 (a1)) (wrap64 (t101 - 1))))))) (Int.tmod (wrap64 (a3)) (wrap64 ((wrap64 (t101 - (wrap64 (1 + (Int.tmod (wrap64 (a1)) (wrap64 (t101 - 1))))))) + 1))) (wrap64 (t103 - x21_1)) (wrap64 (t104 - x22_2)) t114 _ A26.out).mono ?_); rintro e w' ⟨rfl, ⟨nd, rfl⟩⟩; (try first | exact ⟨rfl, _, World.drewN_drewN _ _ _⟩ | exact ⟨rfl, _, Eq.trans (World.drewN_drewN _ _ _) (congrArg (World.drewN _) (Nat.add_assoc _ _ _))⟩))); try go_wp2_with (first | (go_at_call 19; (with_reducible refine (check_Samples.calls (wrap64 (1 + (Int.tmod (wrap64 (a1)) (wrap64 (t101 - 1))))) (Int.tmod (wrap64 (a2)) (wrap64 ((wrap64 (1 + (Int.tmod (wrap64 (a1)) (wrap64 (t101 - 1))))) + 1))) x21_1 x22_2 t109 t110 _ A20.out).mono ?_); rintro e w30 ⟨rfl, hb⟩; have n0_ := Aside0.mk (below_step (by repeat (first | (with_reducible first | exact HB.out | apply below_alloc | apply pw_below_drewN | apply below_drew1) | exact HB.out)) hb); clear HB; have HB := n0_; clear n0_; (try clear hb); (try clear hb2); (try clear hk); (try clear hi)) | (go_at_call 19; (with_reducible refine (check_Samples.calls (wrap64 (t101 - (wrap64 (1 + (Int.tmod (wrap64 (a1)) (wrap64 (t101 - 1))))))) (Int.tmod (wrap64 (a3)) (wrap64 ((wrap64 (t101 - (wrap64 (1 + (Int.tmod (wrap64 (a1)) (wrap64 (t101 - 1))))))) + 1))) (wrap64 (t103 - x21_1)) (wrap64 (t104 - x22_2)) t111 t112 _ A21.out).mono ?_); rintro e w31 ⟨rfl, hb⟩; have n0_ := Aside0.mk (below_step (by repeat (first | (with_reducible first | exact HB.out | apply below_alloc | apply pw_below_drewN | apply below_drew1) | exact HB.out)) hb); clear HB; have HB := n0_; clear n0_; (try clear hb); (try clear hb2); (try clear hk); (try clear hi)) | (go_at_call 50; (with_reducible refine (peaveyref10_Just.calls k2 (wrap64 (1 + (Int.tmod (wrap64 (a1)) (wrap64 (t101 - 1))))) (Int.tmod (wrap64 (a2)) (wrap64 ((wrap64 (1 + (Int.tmod (wrap64 (a1)) (wrap64 (t101 - 1))))) + 1))) x21_1 x22_2 t113 _ A24.out).mono ?_); rintro e w' ⟨rfl, ⟨nd, rfl⟩⟩; (try first | exact ⟨rfl, _, World.drewN_drewN _ _ _⟩ | exact ⟨rfl, _, Eq.trans (World.drewN_drewN _ _ _) (congrArg (World.drewN _) (Nat.add_assoc _ _ _))⟩)) | (go_at_call 50; (with_reducible refine (peaveyref10_Just.calls k2 (wrap64 (t101 - (wrap64 (1 + (Int.tmod (wrap64 (a1)) (wrap64 (t101 - 1))))))) (Int.tmod (wrap64 (a3)) (wrap64 ((wrap64 (t101 - (wrap64 (1 + (Int.tmod (wrap64 (a1)) (wrap64 (t101 - 1))))))) + 1))) (wrap64 (t103 - x21_1)) (wrap64 (t104 - x22_2)) t114 _ A26.out).mono ?_); rintro e w' ⟨rfl, ⟨nd, rfl⟩⟩; (try first | exact ⟨rfl, _, World.drewN_drewN _ _ _⟩ | exact ⟨rfl, _, Eq.trans (World.drewN_drewN _ _ _) (congrArg (World.drewN _) (Nat.add_assoc _ _ _))⟩))))
                              go_ret
                              exact ⟨by first | rfl | (simp [errW_none, errW_some] <;> rfl) | (simp only [← hji14, ← hji15, ← hji17, ← hji18]; first | rfl | (simp [errW_none, errW_some] <;> rfl)) | (simp [*, errW_none, errW_some] <;> rfl), by repeat (first | (with_reducible first | exact HB.out | apply below_alloc | apply pw_below_drewN | apply below_drew1) | exact HB.out)⟩
                          · rw [if_neg c25] at H
                            have c25b0 : (t109 == t113) = false := beq_eq_false_iff_ne.mpr c25
                            have c25b1 : (t109 != t113) = true := bne_iff_ne.mpr c25
                            obtain rfl := Option.some.inj H
                            go_wp2_with (first | (go_at_call 19; (with_reducible refine (check_Samples.calls (wrap64 (1 + (Int.tmod (wrap64 (a1)) (wrap64 (t101 - 1))))) (Int.tmod (wrap64 (a2)) (wrap64 ((wrap64 (1 + (Int.tmod (wrap64 (a1)) (wrap64 (t101 - 1))))) + 1))) x21_1 x22_2 t109 t110 _ A20.out).mono ?_); rintro e w32 ⟨rfl, hb⟩; have n0_ := Aside0.mk (below_step (by repeat (first | (with_reducible first | exact HB.out | apply below_alloc | apply pw_below_drewN | apply below_drew1) | exact HB.out)) hb); clear HB; have HB := n0_; clear n0_; (try clear hb); (try clear hb2); (try clear hk); (try clear hi)) | (go_at_call 19; (with_reducible refine (check_Samples.calls (wrap64 (t101 - (wrap64 (1 + (Int.tmod (wrap64 (a1)) (wrap64 (t101 - 1))))))) (Int.tmod (wrap64 (a3)) (wrap64 ((wrap64 (t101 - (wrap64 (1 + (Int.tmod (wrap64 (a1)) (wrap64 (t101 - 1))))))) + 1))) (wrap64 (t103 - x21_1)) (wrap64 (t104 - x22_2)) t111 t112 _ A21.out).mono ?_); rintro e w33 ⟨rfl, hb⟩; have n0_ := Aside0.mk (below_step (by repeat (first | (with_reducible first | exact HB.out | apply below_alloc | apply pw_below_drewN | apply below_drew1) | exact HB.out)) hb); clear HB; have HB := n0_; clear n0_; (try clear hb); (try clear hb2); (try clear hk); (try clear hi)) | (go_at_call 50; (with_reducible refine (peaveyref10_Just.calls k2 (wrap64 (1 + (Int.tmod (wrap64 (a1)) (wrap64 (t101 - 1))))) (Int.tmod (wrap64 (a2)) (wrap64 ((wrap64 (1 + (Int.tmod (wrap64 (a1)) (wrap64 (t101 - 1))))) + 1))) x21_1 x22_2 t113 _ A24.out).mono ?_); rintro e w' ⟨rfl, ⟨nd, rfl⟩⟩; (try first | exact ⟨rfl, _, World.drewN_drewN _ _ _⟩ | exact ⟨rfl, _, Eq.trans (World.drewN_drewN _ _ _) (congrArg (World.drewN _) (Nat.add_assoc _ _ _))⟩)))
                            repeat (go_quiet (first | (go_at_call 19; (with_reducible refine (check_Samples.calls (wrap64 (1 + (Int.tmod (wrap64 (a1)) (wrap64 (t101 - 1))))) (Int.tmod (wrap64 (a2)) (wrap64 ((wrap64 (1 + (Int.tmod (wrap64 (a1)) (wrap64 (t101 - 1))))) + 1))) x21_1 x22_2 t109 t110 _ A20.out).mono ?_); rintro e w32 ⟨rfl, hb⟩; have n0_ := Aside0.mk (below_step (by repeat (first | (with_reducible first | exact HB.out | apply below_alloc | apply pw_below_drewN | apply below_drew1) | exact HB.out)) hb); clear HB; have HB := n0_; clear n0_; (try clear hb); (try clear hb2); (try clear hk); (try clear hi)) | (go_at_call 19; (with_reducible refine (check_Samples.calls (wrap64 (t101 - (wrap64 (1 + (Int.tmod (wrap64 (a1)) (wrap64 (t101 - 1))))))) (Int.tmod (wrap64 (a3)) (wrap64 ((wrap64 (t101 - (wrap64 (1 + (Int.tmod (wrap64 (a1)) (wrap64 (t101 - 1))))))) + 1))) (wrap64 (t103 - x21_1)) (wrap64 (t104 - x22_2)) t111 t112 _ A21.out).mono ?_); rintro e w33 ⟨rfl, hb⟩; have n0_ := Aside0.mk (below_step (by repeat (first | (with_reducible first | exact HB.out | apply below_alloc | apply pw_below_drewN | apply below_drew1) | exact HB.out)) hb); clear HB; have HB := n0_; clear n0_; (try clear hb); (try clear hb2); (try clear hk); (try clear hi)) | (go_at_call 50; (with_reducible refine (peaveyref10_Just.calls k2 (wrap64 (1 + (Int.tmod (wrap64 (a1)) (wrap64 (t101 - 1))))) (Int.tmod (wrap64 (a2)) (wrap64 ((wrap64 (1 + (Int.tmod (wrap64 (a1)) (wrap64 (t101 - 1))))) + 1))) x21_1 x22_2 t113 _ A24.out).mono ?_); rintro e w' ⟨rfl, ⟨nd, rfl⟩⟩; (try first | exact ⟨rfl, _, World.drewN_drewN _ _ _⟩ | exact ⟨rfl, _, Eq.trans (World.drewN_drewN _ _ _) (congrArg (World.drewN _) (Nat.add_assoc _ _ _))⟩))); try go_wp2_with (first | (go_at_call 19; (with_reducible refine (check_Samples.calls (wrap64 (1 + (Int.tmod (wrap64 (a1)) (wrap64 (t101 - 1))))) (Int.tmod (wrap64 (a2)) (wrap64 ((wrap64 (1 + (Int.tmod (wrap64 (a1)) (wrap64 (t101 - 1))))) + 1))) x21_1 x22_2 t109 t110 _ A20.out).mono ?_); rintro e w32 ⟨rfl, hb⟩; have n0_ := Aside0.mk (below_step (by repeat (first | (with_reducible first | exact HB.out | apply below_alloc | apply pw_below_drewN | apply below_drew1) | exact HB.out)) hb); clear HB; have HB := n0_; clear n0_; (try clear hb); (try clear hb2); (try clear hk); (try clear hi)) | (go_at_call 19; (with_reducible refine (check_Samples.calls (wrap64 (t101 - (wrap64 (1 + (Int.tmod (wrap64 (a1)) (wrap64 (t101 - 1))))))) (Int.tmod (wrap64 (a3)) (wrap64 ((wrap64 (t101 - (wrap64 (1 + (Int.tmod (wrap64 (a1)) (wrap64 (t101 - 1))))))) + 1))) (wrap64 (t103 - x21_1)) (wrap64 (t104 - x22_2)) t111 t112 _ A21.out).mono ?_); rintro e w33 ⟨rfl, hb⟩; have n0_ := Aside0.mk (below_step (by repeat (first | (with_reducible first | exact HB.out | apply below_alloc | apply pw_below_drewN | apply below_drew1) | exact HB.out)) hb); clear HB; have HB := n0_; clear n0_; (try clear hb); (try clear hb2); (try clear hk); (try clear hi)) | (go_at_call 50; (with_reducible refine (peaveyref10_Just.calls k2 (wrap64 (1 + (Int.tmod (wrap64 (a1)) (wrap64 (t101 - 1))))) (Int.tmod (wrap64 (a2)) (wrap64 ((wrap64 (1 + (Int.tmod (wrap64 (a1)) (wrap64 (t101 - 1))))) + 1))) x21_1 x22_2 t113 _ A24.out).mono ?_); rintro e w' ⟨rfl, ⟨nd, rfl⟩⟩; (try first | exact ⟨rfl, _, World.drewN_drewN _ _ _⟩ | exact ⟨rfl, _, Eq.trans (World.drewN_drewN _ _ _) (congrArg (World.drewN _) (Nat.add_assoc _ _ _))⟩))))
                            go_ret
                            exact ⟨by first | rfl | (simp [errW_none, errW_some] <;> rfl) | (simp only [← hji14, ← hji15, ← hji17, ← hji18]; first | rfl | (simp [errW_none, errW_some] <;> rfl)) | (simp [*, errW_none, errW_some] <;> rfl), by repeat (first | (with_reducible first | exact HB.out | apply below_alloc | apply pw_below_drewN | apply below_drew1) | exact HB.out)⟩
                        · rw [if_neg c23] at H
                          have c23b0 : (t112 == 0) = false := beq_eq_false_iff_ne.mpr c23
                          have c23b1 : (t112 != 0) = true := bne_iff_ne.mpr c23
                          obtain rfl := Option.some.inj H
                          go_wp2_with (first | (go_at_call 19; (with_reducible refine (check_Samples.calls (wrap64 (1 + (Int.tmod (wrap64 (a1)) (wrap64 (t101 - 1))))) (Int.tmod (wrap64 (a2)) (wrap64 ((wrap64 (1 + (Int.tmod (wrap64 (a1)) (wrap64 (t101 - 1))))) + 1))) x21_1 x22_2 t109 t110 _ A20.out).mono ?_); rintro e w34 ⟨rfl, hb⟩; have n0_ := Aside0.mk (below_step (by repeat (first | (with_reducible first | exact HB.out | apply below_alloc | apply pw_below_drewN | apply below_drew1) | exact HB.out)) hb); clear HB; have HB := n0_; clear n0_; (try clear hb); (try clear hb2); (try clear hk); (try clear hi)) | (go_at_call 19; (with_reducible refine (check_Samples.calls (wrap64 (t101 - (wrap64 (1 + (Int.tmod (wrap64 (a1)) (wrap64 (t101 - 1))))))) (Int.tmod (wrap64 (a3)) (wrap64 ((wrap64 (t101 - (wrap64 (1 + (Int.tmod (wrap64 (a1)) (wrap64 (t101 - 1))))))) + 1))) (wrap64 (t103 - x21_1)) (wrap64 (t104 - x22_2)) t111 t112 _ A21.out).mono ?_); rintro e w35 ⟨rfl, hb⟩; have n0_ := Aside0.mk (below_step (by repeat (first | (with_reducible first | exact HB.out | apply below_alloc | apply pw_below_drewN | apply below_drew1) | exact HB.out)) hb); clear HB; have HB := n0_; clear n0_; (try clear hb); (try clear hb2); (try clear hk); (try clear hi)))
                          repeat (go_quiet (first | (go_at_call 19; (with_reducible refine (check_Samples.calls (wrap64 (1 + (Int.tmod (wrap64 (a1)) (wrap64 (t101 - 1))))) (Int.tmod (wrap64 (a2)) (wrap64 ((wrap64 (1 + (Int.tmod (wrap64 (a1)) (wrap64 (t101 - 1))))) + 1))) x21_1 x22_2 t109 t110 _ A20.out).mono ?_); rintro e w34 ⟨rfl, hb⟩; have n0_ := Aside0.mk (below_step (by repeat (first | (with_reducible first | exact HB.out | apply below_alloc | apply pw_below_drewN | apply below_drew1) | exact HB.out)) hb); clear HB; have HB := n0_; clear n0_; (try clear hb); (try clear hb2); (try clear hk); (try clear hi)) | (go_at_call 19; (with_reducible refine (check_Samples.calls (wrap64 (t101 - (wrap64 (1 + (Int.tmod (wrap64 (a1)) (wrap64 (t101 - 1))))))) (Int.tmod (wrap64 (a3)) (wrap64 ((wrap64 (t101 - (wrap64 (1 + (Int.tmod (wrap64 (a1)) (wrap64 (t101 - 1))))))) + 1))) (wrap64 (t103 - x21_1)) (wrap64 (t104 - x22_2)) t111 t112 _ A21.out).mono ?_); rintro e w35 ⟨rfl, hb⟩; have n0_ := Aside0.mk (below_step (by repeat (first | (with_reducible first | exact HB.out | apply below_alloc | apply pw_below_drewN | apply below_drew1) | exact HB.out)) hb); clear HB; have HB := n0_; clear n0_; (try clear hb); (try clear hb2); (try clear hk); (try clear hi))); try go_wp2_with (first | (go_at_call 19; (with_reducible refine (check_Samples.calls (wrap64 (1 + (Int.tmod (wrap64 (a1)) (wrap64 (t101 - 1))))) (Int.tmod (wrap64 (a2)) (wrap64 ((wrap64 (1 + (Int.tmod (wrap64 (a1)) (wrap64 (t101 - 1))))) + 1))) x21_1 x22_2 t109 t110 _ A20.out).mono ?_); rintro e w34 ⟨rfl, hb⟩; have n0_ := Aside0.mk (below_step (by repeat (first | (with_reducible first | exact HB.out | apply below_alloc | apply pw_below_drewN | apply below_drew1) | exact HB.out)) hb); clear HB; have HB := n0_; clear n0_; (try clear hb); (try clear hb2); (try clear hk); (try clear hi)) | (go_at_call 19; (with_reducible refine (check_Samples.calls (wrap64 (t101 - (wrap64 (1 + (Int.tmod (wrap64 (a1)) (wrap64 (t101 - 1))))))) (Int.tmod (wrap64 (a3)) (wrap64 ((wrap64 (t101 - (wrap64 (1 + (Int.tmod (wrap64 (a1)) (wrap64 (t101 - 1))))))) + 1))) (wrap64 (t103 - x21_1)) (wrap64 (t104 - x22_2)) t111 t112 _ A21.out).mono ?_); rintro e w35 ⟨rfl, hb⟩; have n0_ := Aside0.mk (below_step (by repeat (first | (with_reducible first | exact HB.out | apply below_alloc | apply pw_below_drewN | apply below_drew1) | exact HB.out)) hb); clear HB; have HB := n0_; clear n0_; (try clear hb); (try clear hb2); (try clear hk); (try clear hi))))
                          go_ret
                          exact ⟨by first | rfl | (simp [errW_none, errW_some] <;> rfl) | (simp only [← hji14, ← hji15, ← hji17, ← hji18]; first | rfl | (simp [errW_none, errW_some] <;> rfl)) | (simp [*, errW_none, errW_some] <;> rfl), by repeat (first | (with_reducible first | exact HB.out | apply below_alloc | apply pw_below_drewN | apply below_drew1) | exact HB.out)⟩
                      · rw [if_neg c22] at H
                        have c22b0 : (t110 == 0) = false := beq_eq_false_iff_ne.mpr c22
                        have c22b1 : (t110 != 0) = true := bne_iff_ne.mpr c22
                        obtain rfl := Option.some.inj H
                        go_wp2_with (first | (go_at_call 19; (with_reducible refine (check_Samples.calls (wrap64 (1 + (Int.tmod (wrap64 (a1)) (wrap64 (t101 - 1))))) (Int.tmod (wrap64 (a2)) (wrap64 ((wrap64 (1 + (Int.tmod (wrap64 (a1)) (wrap64 (t101 - 1))))) + 1))) x21_1 x22_2 t109 t110 _ A20.out).mono ?_); rintro e w36 ⟨rfl, hb⟩; have n0_ := Aside0.mk (below_step (by repeat (first | (with_reducible first | exact HB.out | apply below_alloc | apply pw_below_drewN | apply below_drew1) | exact HB.out)) hb); clear HB; have HB := n0_; clear n0_; (try clear hb); (try clear hb2); (try clear hk); (try clear hi)) | (go_at_call 19; (with_reducible refine (check_Samples.calls (wrap64 (t101 - (wrap64 (1 + (Int.tmod (wrap64 (a1)) (wrap64 (t101 - 1))))))) (Int.tmod (wrap64 (a3)) (wrap64 ((wrap64 (t101 - (wrap64 (1 + (Int.tmod (wrap64 (a1)) (wrap64 (t101 - 1))))))) + 1))) (wrap64 (t103 - x21_1)) (wrap64 (t104 - x22_2)) t111 t112 _ A21.out).mono ?_); rintro e w37 ⟨rfl, hb⟩; have n0_ := Aside0.mk (below_step (by repeat (first | (with_reducible first | exact HB.out | apply below_alloc | apply pw_below_drewN | apply below_drew1) | exact HB.out)) hb); clear HB; have HB := n0_; clear n0_; (try clear hb); (try clear hb2); (try clear hk); (try clear hi)))
                        repeat (go_quiet (first | (go_at_call 19; (with_reducible refine (check_Samples.calls (wrap64 (1 + (Int.tmod (wrap64 (a1)) (wrap64 (t101 - 1))))) (Int.tmod (wrap64 (a2)) (wrap64 ((wrap64 (1 + (Int.tmod (wrap64 (a1)) (wrap64 (t101 - 1))))) + 1))) x21_1 x22_2 t109 t110 _ A20.out).mono ?_); rintro e w36 ⟨rfl, hb⟩; have n0_ := Aside0.mk (below_step (by repeat (first | (with_reducible first | exact HB.out | apply below_alloc | apply pw_below_drewN | apply below_drew1) | exact HB.out)) hb); clear HB; have HB := n0_; clear n0_; (try clear hb); (try clear hb2); (try clear hk); (try clear hi)) | (go_at_call 19; (with_reducible refine (check_Samples.calls (wrap64 (t101 - (wrap64 (1 + (Int.tmod (wrap64 (a1)) (wrap64 (t101 - 1))))))) (Int.tmod (wrap64 (a3)) (wrap64 ((wrap64 (t101 - (wrap64 (1 + (Int.tmod (wrap64 (a1)) (wrap64 (t101 - 1))))))) + 1))) (wrap64 (t103 - x21_1)) (wrap64 (t104 - x22_2)) t111 t112 _ A21.out).mono ?_); rintro e w37 ⟨rfl, hb⟩; have n0_ := Aside0.mk (below_step (by repeat (first | (with_reducible first | exact HB.out | apply below_alloc | apply pw_below_drewN | apply below_drew1) | exact HB.out)) hb); clear HB; have HB := n0_; clear n0_; (try clear hb); (try clear hb2); (try clear hk); (try clear hi))); try go_wp2_with (first | (go_at_call 19; (with_reducible refine (check_Samples.calls (wrap64 (1 + (Int.tmod (wrap64 (a1)) (wrap64 (t101 - 1))))) (Int.tmod (wrap64 (a2)) (wrap64 ((wrap64 (1 + (Int.tmod (wrap64 (a1)) (wrap64 (t101 - 1))))) + 1))) x21_1 x22_2 t109 t110 _ A20.out).mono ?_); rintro e w36 ⟨rfl, hb⟩; have n0_ := Aside0.mk (below_step (by repeat (first | (with_reducible first | exact HB.out | apply below_alloc | apply pw_below_drewN | apply below_drew1) | exact HB.out)) hb); clear HB; have HB := n0_; clear n0_; (try clear hb); (try clear hb2); (try clear hk); (try clear hi)) | (go_at_call 19; (with_reducible refine (check_Samples.calls (wrap64 (t101 - (wrap64 (1 + (Int.tmod (wrap64 (a1)) (wrap64 (t101 - 1))))))) (Int.tmod (wrap64 (a3)) (wrap64 ((wrap64 (t101 - (wrap64 (1 + (Int.tmod (wrap64 (a1)) (wrap64 (t101 - 1))))))) + 1))) (wrap64 (t103 - x21_1)) (wrap64 (t104 - x22_2)) t111 t112 _ A21.out).mono ?_); rintro e w37 ⟨rfl, hb⟩; have n0_ := Aside0.mk (below_step (by repeat (first | (with_reducible first | exact HB.out | apply below_alloc | apply pw_below_drewN | apply below_drew1) | exact HB.out)) hb); clear HB; have HB := n0_; clear n0_; (try clear hb); (try clear hb2); (try clear hk); (try clear hi))))
                        go_ret
                        exact ⟨by first | rfl | (simp [errW_none, errW_some] <;> rfl) | (simp only [← hji14, ← hji15, ← hji17, ← hji18]; first | rfl | (simp [errW_none, errW_some] <;> rfl)) | (simp [*, errW_none, errW_some] <;> rfl), by repeat (first | (with_reducible first | exact HB.out | apply below_alloc | apply pw_below_drewN | apply below_drew1) | exact HB.out)⟩
                    · rw [if_neg c19] at H
                      have c19b0 : decide (x22_2 ≤ (ji18)) = false := decide_eq_false c19
                      clear c19
                      have H' := Aside0.mk H
                      clear H
                      go_wp2
                      repeat (go_quiet (fail); try go_wp2)
                      go_roundg k2
                      case measure => have := HK1.out; have := HK2.out; omega
                      case rel => exact ⟨(x20_2), (wrap64 (x21_1 + 1)), (by first | rfl | (simp; done) | (simp [*]; done)), (by first | rfl | (simp; done) | (simp [*]; done)), H', ⟨by have := HK1.out; have := HK2.out; omega⟩, ⟨by repeat (first | (with_reducible first | exact HB.out | apply below_alloc | apply pw_below_drewN | apply below_drew1) | exact HB.out)⟩⟩
              · rw [if_neg c16] at H
                have c16b0 : decide (x21_1 ≤ (ji15)) = false := decide_eq_false c16
                clear c16
                replace H := Option.bind_eq_some_iff.mp H
                obtain ⟨⟨t106, t107⟩, A380, H⟩ := H
                replace H : (if t107 = 0 then (if t106 = x20_1 then ((peaveylaw10_Works.f).bind fun t108 => (some t108)) else (some false)) else (some false)) = some r := H
                have A38 := Aside0.mk A380
                clear A380
                by_cases c39 : t107 = 0
                · rw [if_pos c39] at H
                  have c39b0 : (t107 == 0) = true := beq_iff_eq.mpr c39
                  have c39b1 : (t107 != 0) = false := bne_eq_false_iff_eq.mpr c39
                  clear c39
                  by_cases c40 : t106 = x20_1
                  · rw [if_pos c40] at H
                    have c40b0 : (t106 == x20_1) = true := beq_iff_eq.mpr c40
                    have c40b1 : (t106 != x20_1) = false := bne_eq_false_iff_eq.mpr c40
                    clear c40
                    replace H := Option.bind_eq_some_iff.mp H
                    obtain ⟨t108, A410, H⟩ := H
                    replace H : (some t108) = some r := H
                    have A41 := Aside0.mk A410
                    clear A410
                    obtain rfl := Option.some.inj H
                    go_wp2_with (first | (go_at_call 19; (with_reducible refine (check_Samples.calls t101 (wrap64 ((Int.tmod (wrap64 (a2)) (wrap64 ((wrap64 (1 + (Int.tmod (wrap64 (a1)) (wrap64 (t101 - 1))))) + 1))) + (Int.tmod (wrap64 (a3)) (wrap64 ((wrap64 (t101 - (wrap64 (1 + (Int.tmod (wrap64 (a1)) (wrap64 (t101 - 1))))))) + 1))))) t103 t104 t106 t107 _ A38.out).mono ?_); rintro e w42 ⟨rfl, hb⟩; have n0_ := Aside0.mk (below_step (by repeat (first | (with_reducible first | exact HB.out | apply below_alloc | apply pw_below_drewN | apply below_drew1) | exact HB.out)) hb); clear HB; have HB := n0_; clear n0_; (try clear hb); (try clear hb2); (try clear hk); (try clear hi)) | (go_at_call 25; (with_reducible refine (peaveylaw10_Works.calls  t108 _ A41.out).mono ?_); rintro e w43 ⟨rfl, hb⟩; have n0_ := Aside0.mk (below_step (by repeat (first | (with_reducible first | exact HB.out | apply below_alloc | apply pw_below_drewN | apply below_drew1) | exact HB.out)) hb); clear HB; have HB := n0_; clear n0_; (try clear hb); (try clear hb2); (try clear hk); (try clear hi)))
                    repeat (go_quiet (first | (go_at_call 19; (with_reducible refine (check_Samples.calls t101 (wrap64 ((Int.tmod (wrap64 (a2)) (wrap64 ((wrap64 (1 + (Int.tmod (wrap64 (a1)) (wrap64 (t101 - 1))))) + 1))) + (Int.tmod (wrap64 (a3)) (wrap64 ((wrap64 (t101 - (wrap64 (1 + (Int.tmod (wrap64 (a1)) (wrap64 (t101 - 1))))))) + 1))))) t103 t104 t106 t107 _ A38.out).mono ?_); rintro e w42 ⟨rfl, hb⟩; have n0_ := Aside0.mk (below_step (by repeat (first | (with_reducible first | exact HB.out | apply below_alloc | apply pw_below_drewN | apply below_drew1) | exact HB.out)) hb); clear HB; have HB := n0_; clear n0_; (try clear hb); (try clear hb2); (try clear hk); (try clear hi)) | (go_at_call 25; (with_reducible refine (peaveylaw10_Works.calls  t108 _ A41.out).mono ?_); rintro e w43 ⟨rfl, hb⟩; have n0_ := Aside0.mk (below_step (by repeat (first | (with_reducible first | exact HB.out | apply below_alloc | apply pw_below_drewN | apply below_drew1) | exact HB.out)) hb); clear HB; have HB := n0_; clear n0_; (try clear hb); (try clear hb2); (try clear hk); (try clear hi))); try go_wp2_with (first | (go_at_call 19; (with_reducible refine (check_Samples.calls t101 (wrap64 ((Int.tmod (wrap64 (a2)) (wrap64 ((wrap64 (1 + (Int.tmod (wrap64 (a1)) (wrap64 (t101 - 1))))) + 1))) + (Int.tmod (wrap64 (a3)) (wrap64 ((wrap64 (t101 - (wrap64 (1 + (Int.tmod (wrap64 (a1)) (wrap64 (t101 - 1))))))) + 1))))) t103 t104 t106 t107 _ A38.out).mono ?_); rintro e w42 ⟨rfl, hb⟩; have n0_ := Aside0.mk (below_step (by repeat (first | (with_reducible first | exact HB.out | apply below_alloc | apply pw_below_drewN | apply below_drew1) | exact HB.out)) hb); clear HB; have HB := n0_; clear n0_; (try clear hb); (try clear hb2); (try clear hk); (try clear hi)) | (go_at_call 25; (with_reducible refine (peaveylaw10_Works.calls  t108 _ A41.out).mono ?_); rintro e w43 ⟨rfl, hb⟩; have n0_ := Aside0.mk (below_step (by repeat (first | (with_reducible first | exact HB.out | apply below_alloc | apply pw_below_drewN | apply below_drew1) | exact HB.out)) hb); clear HB; have HB := n0_; clear n0_; (try clear hb); (try clear hb2); (try clear hk); (try clear hi))))
                    go_ret
                    exact ⟨by first | rfl | (simp [errW_none, errW_some] <;> rfl) | (simp only [← hji14, ← hji15]; first | rfl | (simp [errW_none, errW_some] <;> rfl)) | (simp [*, errW_none, errW_some] <;> rfl), by repeat (first | (with_reducible first | exact HB.out | apply below_alloc | apply pw_below_drewN | apply below_drew1) | exact HB.out)⟩
                  · rw [if_neg c40] at H
                    have c40b0 : (t106 == x20_1) = false := beq_eq_false_iff_ne.mpr c40
                    have c40b1 : (t106 != x20_1) = true := bne_iff_ne.mpr c40
                    obtain rfl := Option.some.inj H
                    go_wp2_with (first | (go_at_call 19; (with_reducible refine (check_Samples.calls t101 (wrap64 ((Int.tmod (wrap64 (a2)) (wrap64 ((wrap64 (1 + (Int.tmod (wrap64 (a1)) (wrap64 (t101 - 1))))) + 1))) + (Int.tmod (wrap64 (a3)) (wrap64 ((wrap64 (t101 - (wrap64 (1 + (Int.tmod (wrap64 (a1)) (wrap64 (t101 - 1))))))) + 1))))) t103 t104 t106 t107 _ A38.out).mono ?_); rintro e w44 ⟨rfl, hb⟩; have n0_ := Aside0.mk (below_step (by repeat (first | (with_reducible first | exact HB.out | apply below_alloc | apply pw_below_drewN | apply below_drew1) | exact HB.out)) hb); clear HB; have HB := n0_; clear n0_; (try clear hb); (try clear hb2); (try clear hk); (try clear hi)))
                    repeat (go_quiet (first | (go_at_call 19; (with_reducible refine (check_Samples.calls t101 (wrap64 ((Int.tmod (wrap64 (a2)) (wrap64 ((wrap64 (1 + (Int.tmod (wrap64 (a1)) (wrap64 (t101 - 1))))) + 1))) + (Int.tmod (wrap64 (a3)) (wrap64 ((wrap64 (t101 - (wrap64 (1 + (Int.tmod (wrap64 (a1)) (wrap64 (t101 - 1))))))) + 1))))) t103 t104 t106 t107 _ A38.out).mono ?_); rintro e w44 ⟨rfl, hb⟩; have n0_ := Aside0.mk (below_step (by repeat (first | (with_reducible first | exact HB.out | apply below_alloc | apply pw_below_drewN | apply below_drew1) | exact HB.out)) hb); clear HB; have HB := n0_; clear n0_; (try clear hb); (try clear hb2); (try clear hk); (try clear hi))); try go_wp2_with (first | (go_at_call 19; (with_reducible refine (check_Samples.calls t101 (wrap64 ((Int.tmod (wrap64 (a2)) (wrap64 ((wrap64 (1 + (Int.tmod (wrap64 (a1)) (wrap64 (t101 - 1))))) + 1))) + (Int.tmod (wrap64 (a3)) (wrap64 ((wrap64 (t101 - (wrap64 (1 + (Int.tmod (wrap64 (a1)) (wrap64 (t101 - 1))))))) + 1))))) t103 t104 t106 t107 _ A38.out).mono ?_); rintro e w44 ⟨rfl, hb⟩; have n0_ := Aside0.mk (below_step (by repeat (first | (with_reducible first | exact HB.out | apply below_alloc | apply pw_below_drewN | apply below_drew1) | exact HB.out)) hb); clear HB; have HB := n0_; clear n0_; (try clear hb); (try clear hb2); (try clear hk); (try clear hi))))
                    go_ret
                    exact ⟨by first | rfl | (simp [errW_none, errW_some] <;> rfl) | (simp only [← hji14, ← hji15]; first | rfl | (simp [errW_none, errW_some] <;> rfl)) | (simp [*, errW_none, errW_some] <;> rfl), by repeat (first | (with_reducible first | exact HB.out | apply below_alloc | apply pw_below_drewN | apply below_drew1) | exact HB.out)⟩
                · rw [if_neg c39] at H
                  have c39b0 : (t107 == 0) = false := beq_eq_false_iff_ne.mpr c39
                  have c39b1 : (t107 != 0) = true := bne_iff_ne.mpr c39
                  obtain rfl := Option.some.inj H
                  go_wp2_with (first | (go_at_call 19; (with_reducible refine (check_Samples.calls t101 (wrap64 ((Int.tmod (wrap64 (a2)) (wrap64 ((wrap64 (1 + (Int.tmod (wrap64 (a1)) (wrap64 (t101 - 1))))) + 1))) + (Int.tmod (wrap64 (a3)) (wrap64 ((wrap64 (t101 - (wrap64 (1 + (Int.tmod (wrap64 (a1)) (wrap64 (t101 - 1))))))) + 1))))) t103 t104 t106 t107 _ A38.out).mono ?_); rintro e w45 ⟨rfl, hb⟩; have n0_ := Aside0.mk (below_step (by repeat (first | (with_reducible first | exact HB.out | apply below_alloc | apply pw_below_drewN | apply below_drew1) | exact HB.out)) hb); clear HB; have HB := n0_; clear n0_; (try clear hb); (try clear hb2); (try clear hk); (try clear hi)))
                  repeat (go_quiet (first | (go_at_call 19; (with_reducible refine (check_Samples.calls t101 (wrap64 ((Int.tmod (wrap64 (a2)) (wrap64 ((wrap64 (1 + (Int.tmod (wrap64 (a1)) (wrap64 (t101 - 1))))) + 1))) + (Int.tmod (wrap64 (a3)) (wrap64 ((wrap64 (t101 - (wrap64 (1 + (Int.tmod (wrap64 (a1)) (wrap64 (t101 - 1))))))) + 1))))) t103 t104 t106 t107 _ A38.out).mono ?_); rintro e w45 ⟨rfl, hb⟩; have n0_ := Aside0.mk (below_step (by repeat (first | (with_reducible first | exact HB.out | apply below_alloc | apply pw_below_drewN | apply below_drew1) | exact HB.out)) hb); clear HB; have HB := n0_; clear n0_; (try clear hb); (try clear hb2); (try clear hk); (try clear hi))); try go_wp2_with (first | (go_at_call 19; (with_reducible refine (check_Samples.calls t101 (wrap64 ((Int.tmod (wrap64 (a2)) (wrap64 ((wrap64 (1 + (Int.tmod (wrap64 (a1)) (wrap64 (t101 - 1))))) + 1))) + (Int.tmod (wrap64 (a3)) (wrap64 ((wrap64 (t101 - (wrap64 (1 + (Int.tmod (wrap64 (a1)) (wrap64 (t101 - 1))))))) + 1))))) t103 t104 t106 t107 _ A38.out).mono ?_); rintro e w45 ⟨rfl, hb⟩; have n0_ := Aside0.mk (below_step (by repeat (first | (with_reducible first | exact HB.out | apply below_alloc | apply pw_below_drewN | apply below_drew1) | exact HB.out)) hb); clear HB; have HB := n0_; clear n0_; (try clear hb); (try clear hb2); (try clear hk); (try clear hi))))
                  go_ret
                  exact ⟨by first | rfl | (simp [errW_none, errW_some] <;> rfl) | (simp only [← hji14, ← hji15]; first | rfl | (simp [errW_none, errW_some] <;> rfl)) | (simp [*, errW_none, errW_some] <;> rfl), by repeat (first | (with_reducible first | exact HB.out | apply below_alloc | apply pw_below_drewN | apply below_drew1) | exact HB.out)⟩

/-- THE ONE PURE STATEMENT of peaveylaw10_CheckParted: yours. -/
def peaveylaw10_CheckParted.Pure : Prop := ∀ (a0 : Int) (a1 : Int) (a2 : Int) (a3 : Int) (a4 : Int) (a5 : Int), (Lit.int .u8 a0).wf = true → (Lit.int .u8 a1).wf = true → (Lit.int .u8 a2).wf = true → (Lit.int .u8 a3).wf = true → (Lit.int .u8 a4).wf = true → (Lit.int .u8 a5).wf = true → ∃ k, peaveylaw10_CheckParted.f k a0 a1 a2 a3 a4 a5 = some true
theorem peaveylaw10_CheckParted.walk (P : peaveylaw10_CheckParted.Pure) (a0 : Int) (a1 : Int) (a2 : Int) (a3 : Int) (a4 : Int) (a5 : Int) (w : World) (w0 : (Lit.int .u8 a0).wf = true) (w1 : (Lit.int .u8 a1).wf = true) (w2 : (Lit.int .u8 a2).wf = true) (w3 : (Lit.int .u8 a3).wf = true) (w4 : (Lit.int .u8 a4).wf = true) (w5 : (Lit.int .u8 a5).wf = true) :
    Calls Try.prog 15 #[.int .u8 a0, .int .u8 a1, .int .u8 a2, .int .u8 a3, .int .u8 a4, .int .u8 a5] w fun e w' => e = .returned (.bool true) ∧ Below w.heap.size w w' := by
  obtain ⟨k, h⟩ := P a0 a1 a2 a3 a4 a5 w0 w1 w2 w3 w4 w5
  refine (peaveylaw10_CheckParted.calls k a0 a1 a2 a3 a4 a5 true w h).mono ?_
  rintro e w' ⟨rfl, hd⟩
  exact ⟨rfl, hd⟩

end Go.Proofs.Ytmgdidhhgdpobaa.Ppart
