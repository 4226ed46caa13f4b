/- The machine's side of some functions: each Go function as a plain Lean function, and a proof that its call comes to what that says. Written by a program of the session's over the kit's print. -/
import Derived.Test.YtmfonbonfhngnaaGmost0
namespace Go.Proofs.Ytmfonbonfhngnaa.Gmost
open Go.RowKit Go.Proofs.YtmfonbonfhngnaaW.PrintWords Go.Proofs.YtmfonbonfhngnaaW.PrintLast Go.Proofs.YtmfonbonfhngnaaW.PrintMore Go.Proofs.Ytmfonbonfhngnaa.Hand Go.Proofs.Ytmfonbonfhngnaa.PrA Go.Proofs.Ytmfonbonfhngnaa.PrR Go.Proofs.Ytmfonbonfhngnaa.PrL Go.Proofs.Ytmfonbonfhngnaa.PrT
attribute [local go_sem] max2_int min2_int max_two min_two max_three min_three max_four min_four   -- for this text's walks alone
set_option linter.unusedVariables false
set_option linter.unusedSimpArgs false

-- GIVEN: function 17 (peaveylaw03_great)

-- GIVEN: function 18 (peaveylaw03_Works)

-- GIVEN: function 20 (peaveyref03_CheckTurning)

-- GIVEN: function 23 (gap_Most)

-- GIVEN: function 24 (peaveyref03_Most)

-- GIVEN: function 25 (gap_Fewest)

-- GIVEN: function 26 (peaveyref03_Fewest)

-- GIVEN: function 27 (gap_Shape)

-- GIVEN: function 28 (peaveyref03_Shape)

-- GIVEN: function 29 (gap_Turning)

-- GIVEN: function 30 (peaveylaw03_Ints)

/-! ### peaveylaw03_GapMosts: function 4 -/
def peaveylaw03_GapMosts.j0 : Nat → List Int → Int → Int → Int → List Int → Bool → Option (Bool)
  | 0, _, _, _, _, _, _ => none
  | k + 1, x0, x1, x7, x8, x17, x95 => if x95 = true then (some false) else (if x8 = 0 then ((peaveyref03_CheckTurning.f k x0 x1 x17).bind fun bt124 => (if bt124.2 = 0 then (if bt124.1 = x7 then ((peaveylaw03_Works.f k).bind fun t126 => (some t126)) else (some false)) else (some false))) else (if (x17.length : Int) = 0 then ((peaveylaw03_Works.f k).bind fun t127 => (some t127)) else (some false)))
def peaveylaw03_GapMosts.f (k : Nat) (l0 : List Int) (a1 : Int) : Option (Bool) := (peaveylaw03_great.f l0).bind fun t101 => (if t101 = true then ((peaveylaw03_Works.f k).bind fun t102 => (some t102)) else ((gap_Most.f k l0 a1).bind fun bt103 => ((peaveyref03_Most.f k l0 a1).bind fun bt105 => ((gap_Fewest.f l0).bind fun bt107 => ((peaveyref03_Fewest.f k l0).bind fun bt109 => ((gap_Shape.f k l0).bind fun bt111 => ((peaveyref03_Shape.f k l0).bind fun bt115 => ((gap_Turning.f k l0 a1).bind fun bt119 => (if bt103.1 = bt105.1 then (if bt103.2 = bt105.2 then (if bt107.1 = bt109.1 then (if bt107.2 = bt109.2 then ((peaveylaw03_Ints.f k bt111.1 bt115.1).bind fun t123 => (if t123 = true then (if bt111.2 = bt115.2 then (peaveylaw03_GapMosts.j0 k l0 a1 bt105.1 bt105.2 bt119.1 (bt119.2 != bt105.2)) else (peaveylaw03_GapMosts.j0 k l0 a1 bt105.1 bt105.2 bt119.1 true)) else (peaveylaw03_GapMosts.j0 k l0 a1 bt105.1 bt105.2 bt119.1 true))) else (peaveylaw03_GapMosts.j0 k l0 a1 bt105.1 bt105.2 bt119.1 true)) else (peaveylaw03_GapMosts.j0 k l0 a1 bt105.1 bt105.2 bt119.1 true)) else (peaveylaw03_GapMosts.j0 k l0 a1 bt105.1 bt105.2 bt119.1 true)) else (peaveylaw03_GapMosts.j0 k l0 a1 bt105.1 bt105.2 bt119.1 true))))))))))
theorem peaveylaw03_GapMosts.mono_l : ∀ k, (∀ y0 y1 y2 y3 y4 y5, LeO (peaveylaw03_GapMosts.j0 k y0 y1 y2 y3 y4 y5) (peaveylaw03_GapMosts.j0 (k + 1) y0 y1 y2 y3 y4 y5))
  | 0 => fun _ _ _ _ _ _ r h => by simp [peaveylaw03_GapMosts.j0] at h
  | k + 1 => by
    have ih0 := peaveylaw03_GapMosts.mono_l k
    · intro y0 y1 y2 y3 y4 y5
      unfold peaveylaw03_GapMosts.j0
      repeat' first
      | (with_reducible exact ih0 _ _ _ _ _ _)
      | (with_reducible exact gap_Most.mono _ _ _)
      | (with_reducible exact gap_Shape.mono _ _)
      | (with_reducible exact gap_Turning.mono _ _ _)
      | (with_reducible exact peaveylaw03_Ints.mono _ _ _)
      | (with_reducible exact peaveylaw03_Works.mono _)
      | (with_reducible exact peaveyref03_CheckTurning.mono _ _ _ _)
      | (with_reducible exact peaveyref03_Fewest.mono _ _)
      | (with_reducible exact peaveyref03_Most.mono _ _ _)
      | (with_reducible exact peaveyref03_Shape.mono _ _)
      | (with_reducible exact LeO.refl _)
      | (with_reducible exact LeO.none _)
      | (with_reducible refine LeO.ite ?_ ?_)
      | (with_reducible refine LeO.bind ?_ (fun _ => ?_))
      | exact ih0 _ _ _ _ _ _
      | exact gap_Most.mono _ _ _
      | exact gap_Shape.mono _ _
      | exact gap_Turning.mono _ _ _
      | exact peaveylaw03_Ints.mono _ _ _
      | exact peaveylaw03_Works.mono _
      | exact peaveyref03_CheckTurning.mono _ _ _ _
      | exact peaveyref03_Fewest.mono _ _
      | exact peaveyref03_Most.mono _ _ _
      | exact peaveyref03_Shape.mono _ _
      | exact LeO.none _
      | refine LeO.ite ?_ ?_
      | refine LeO.bind ?_ (fun _ => ?_)
theorem peaveylaw03_GapMosts.mono : ∀ a0 a1 k, LeO (peaveylaw03_GapMosts.f k a0 a1) (peaveylaw03_GapMosts.f (k + 1) a0 a1) := by
  intro a0 a1 k
  have ih0 := peaveylaw03_GapMosts.mono_l k
  unfold peaveylaw03_GapMosts.f
  repeat' first
      | (with_reducible exact ih0 _ _ _ _ _ _)
      | (with_reducible exact gap_Most.mono _ _ _)
      | (with_reducible exact gap_Shape.mono _ _)
      | (with_reducible exact gap_Turning.mono _ _ _)
      | (with_reducible exact peaveylaw03_Ints.mono _ _ _)
      | (with_reducible exact peaveylaw03_Works.mono _)
      | (with_reducible exact peaveyref03_CheckTurning.mono _ _ _ _)
      | (with_reducible exact peaveyref03_Fewest.mono _ _)
      | (with_reducible exact peaveyref03_Most.mono _ _ _)
      | (with_reducible exact peaveyref03_Shape.mono _ _)
      | (with_reducible exact LeO.refl _)
      | (with_reducible exact LeO.none _)
      | (with_reducible refine LeO.ite ?_ ?_)
      | (with_reducible refine LeO.bind ?_ (fun _ => ?_))
      | exact ih0 _ _ _ _ _ _
      | exact gap_Most.mono _ _ _
      | exact gap_Shape.mono _ _
      | exact gap_Turning.mono _ _ _
      | exact peaveylaw03_Ints.mono _ _ _
      | exact peaveylaw03_Works.mono _
      | exact peaveyref03_CheckTurning.mono _ _ _ _
      | exact peaveyref03_Fewest.mono _ _
      | exact peaveyref03_Most.mono _ _ _
      | exact peaveyref03_Shape.mono _ _
      | exact LeO.none _
      | refine LeO.ite ?_ ?_
      | refine LeO.bind ?_ (fun _ => ?_)
set_option maxHeartbeats 8000000 in
set_option maxRecDepth 100000 in
theorem peaveylaw03_GapMosts.calls (k : Nat) (A0 : Option Addr) (c0 : Nat) (l0 : List Int) (a1 : Int) (r : Bool) (w : World) (hr0 : Kd.C (Kd.int .i64) w A0 l0.length l0) (hc0 : l0.length ≤ c0) (h : peaveylaw03_GapMosts.f k l0 a1 = some r) :
    Calls Try.prog 4 #[.slice A0 l0.length c0, .int .i64 a1] w fun e w' => e = .returned (.bool r) ∧ Below w.heap.size w w' := by
  have HR0 := Aside0.mk hr0
  have HC0 := Aside0.mk hc0
  clear hr0 hc0
  have HB := Aside0.mk (Below.refl w.heap.size w)
  have H : ((peaveylaw03_great.f l0).bind fun t101 => (if t101 = true then ((peaveylaw03_Works.f k).bind fun t102 => (some t102)) else ((gap_Most.f k l0 a1).bind fun bt103 => ((peaveyref03_Most.f k l0 a1).bind fun bt105 => ((gap_Fewest.f l0).bind fun bt107 => ((peaveyref03_Fewest.f k l0).bind fun bt109 => ((gap_Shape.f k l0).bind fun bt111 => ((peaveyref03_Shape.f k l0).bind fun bt115 => ((gap_Turning.f k l0 a1).bind fun bt119 => (if bt103.1 = bt105.1 then (if bt103.2 = bt105.2 then (if bt107.1 = bt109.1 then (if bt107.2 = bt109.2 then ((peaveylaw03_Ints.f k bt111.1 bt115.1).bind fun t123 => (if t123 = true then (if bt111.2 = bt115.2 then (peaveylaw03_GapMosts.j0 k l0 a1 bt105.1 bt105.2 bt119.1 (bt119.2 != bt105.2)) else (peaveylaw03_GapMosts.j0 k l0 a1 bt105.1 bt105.2 bt119.1 true)) else (peaveylaw03_GapMosts.j0 k l0 a1 bt105.1 bt105.2 bt119.1 true))) else (peaveylaw03_GapMosts.j0 k l0 a1 bt105.1 bt105.2 bt119.1 true)) else (peaveylaw03_GapMosts.j0 k l0 a1 bt105.1 bt105.2 bt119.1 true)) else (peaveylaw03_GapMosts.j0 k l0 a1 bt105.1 bt105.2 bt119.1 true)) else (peaveylaw03_GapMosts.j0 k l0 a1 bt105.1 bt105.2 bt119.1 true))))))))))) = some r := h
  clear h
  replace H := Option.bind_eq_some_iff.mp H
  obtain ⟨t101, A30, H⟩ := H
  replace H : (if t101 = true then ((peaveylaw03_Works.f k).bind fun t102 => (some t102)) else ((gap_Most.f k l0 a1).bind fun bt103 => ((peaveyref03_Most.f k l0 a1).bind fun bt105 => ((gap_Fewest.f l0).bind fun bt107 => ((peaveyref03_Fewest.f k l0).bind fun bt109 => ((gap_Shape.f k l0).bind fun bt111 => ((peaveyref03_Shape.f k l0).bind fun bt115 => ((gap_Turning.f k l0 a1).bind fun bt119 => (if bt103.1 = bt105.1 then (if bt103.2 = bt105.2 then (if bt107.1 = bt109.1 then (if bt107.2 = bt109.2 then ((peaveylaw03_Ints.f k bt111.1 bt115.1).bind fun t123 => (if t123 = true then (if bt111.2 = bt115.2 then (peaveylaw03_GapMosts.j0 k l0 a1 bt105.1 bt105.2 bt119.1 (bt119.2 != bt105.2)) else (peaveylaw03_GapMosts.j0 k l0 a1 bt105.1 bt105.2 bt119.1 true)) else (peaveylaw03_GapMosts.j0 k l0 a1 bt105.1 bt105.2 bt119.1 true))) else (peaveylaw03_GapMosts.j0 k l0 a1 bt105.1 bt105.2 bt119.1 true)) else (peaveylaw03_GapMosts.j0 k l0 a1 bt105.1 bt105.2 bt119.1 true)) else (peaveylaw03_GapMosts.j0 k l0 a1 bt105.1 bt105.2 bt119.1 true)) else (peaveylaw03_GapMosts.j0 k l0 a1 bt105.1 bt105.2 bt119.1 true)))))))))) = some r := H
  have A3 := Aside0.mk A30
  clear A30
  by_cases c4 : t101 = true
  · subst c4
    have H1 : ((peaveylaw03_Works.f k).bind fun t102 => (some t102)) = some r := by rw [if_pos rfl] at H; exact H
    clear H
    have H := H1
    clear H1
    replace H := Option.bind_eq_some_iff.mp H
    obtain ⟨t102, A50, H⟩ := H
    replace H : (some t102) = some r := H
    have A5 := Aside0.mk A50
    clear A50
    obtain rfl := Option.some.inj H
    go_enter Try.func4, Try.ntmps4
    go_wp2_with (first | ((with_reducible refine gate_callee (f := 17) rfl ?_); refine goesL_ (some 22) rfl rfl Try.func17 (by kernel_rfl) rfl #[.slice A0 l0.length c0] rfl (by (try simp only [List.map_toArray, List.map_cons, List.map_nil]); first | done | rfl | (simp only [List.length_drop, List.length_take]; rfl)) ?_; (with_reducible refine (peaveylaw03_great.calls _ _ l0 true _ ?side1 ?side2 A3.out).mono ?_); (case side1 => repeat (first | exact HR0.out | (with_reducible refine Kd.C_alloc ?_ _) | (with_reducible refine Kd.C_drewN ?_ _) | (with_reducible refine Kd.C_drew ?_))); (case side2 => exact HC0.out); rintro e w' ⟨rfl, ⟨nd, rfl⟩⟩; refine ⟨_, rfl, ?_⟩) | ((with_reducible refine gate_callee (f := 18) rfl ?_); refine goesL_ (some 23) rfl rfl Try.func18 (by kernel_rfl) rfl #[] rfl (by (try simp only [List.map_toArray, List.map_cons, List.map_nil]); first | done | rfl | (simp only [List.length_drop, List.length_take]; rfl)) ?_; (with_reducible refine (peaveylaw03_Works.calls k  t102 _ A5.out).mono ?_); rintro e w6 ⟨rfl, hb⟩; refine ⟨_, rfl, ?_⟩; have n0_ := Aside0.mk (below_step (by repeat (first | (with_reducible first | exact HB.out | apply below_alloc | apply pw_below_drewN | apply below_drew1) | exact HB.out)) hb); clear HB; have HB := n0_; clear n0_; (try clear hb); (try clear hb2); (try clear hk); (try clear hi)))
    go_ret
    exact ⟨by first | rfl | (simp [errW_none, errW_some] <;> rfl) | (simp [*, errW_none, errW_some] <;> rfl), by repeat (first | (with_reducible first | exact HB.out | apply below_alloc | apply pw_below_drewN | apply below_drew1) | exact HB.out)⟩
  · replace c4 := Bool.eq_false_iff.mpr c4
    subst c4
    have H1 : ((gap_Most.f k l0 a1).bind fun bt103 => ((peaveyref03_Most.f k l0 a1).bind fun bt105 => ((gap_Fewest.f l0).bind fun bt107 => ((peaveyref03_Fewest.f k l0).bind fun bt109 => ((gap_Shape.f k l0).bind fun bt111 => ((peaveyref03_Shape.f k l0).bind fun bt115 => ((gap_Turning.f k l0 a1).bind fun bt119 => (if bt103.1 = bt105.1 then (if bt103.2 = bt105.2 then (if bt107.1 = bt109.1 then (if bt107.2 = bt109.2 then ((peaveylaw03_Ints.f k bt111.1 bt115.1).bind fun t123 => (if t123 = true then (if bt111.2 = bt115.2 then (peaveylaw03_GapMosts.j0 k l0 a1 bt105.1 bt105.2 bt119.1 (bt119.2 != bt105.2)) else (peaveylaw03_GapMosts.j0 k l0 a1 bt105.1 bt105.2 bt119.1 true)) else (peaveylaw03_GapMosts.j0 k l0 a1 bt105.1 bt105.2 bt119.1 true))) else (peaveylaw03_GapMosts.j0 k l0 a1 bt105.1 bt105.2 bt119.1 true)) else (peaveylaw03_GapMosts.j0 k l0 a1 bt105.1 bt105.2 bt119.1 true)) else (peaveylaw03_GapMosts.j0 k l0 a1 bt105.1 bt105.2 bt119.1 true)) else (peaveylaw03_GapMosts.j0 k l0 a1 bt105.1 bt105.2 bt119.1 true))))))))) = some r := by rw [if_neg (show ¬ (false = true) by decide)] at H; exact H
    clear H
    have H := H1
    clear H1
    replace H := Option.bind_eq_some_iff.mp H
    obtain ⟨⟨t103, t104⟩, A70, H⟩ := H
    replace H : ((peaveyref03_Most.f k l0 a1).bind fun bt105 => ((gap_Fewest.f l0).bind fun bt107 => ((peaveyref03_Fewest.f k l0).bind fun bt109 => ((gap_Shape.f k l0).bind fun bt111 => ((peaveyref03_Shape.f k l0).bind fun bt115 => ((gap_Turning.f k l0 a1).bind fun bt119 => (if t103 = bt105.1 then (if t104 = bt105.2 then (if bt107.1 = bt109.1 then (if bt107.2 = bt109.2 then ((peaveylaw03_Ints.f k bt111.1 bt115.1).bind fun t123 => (if t123 = true then (if bt111.2 = bt115.2 then (peaveylaw03_GapMosts.j0 k l0 a1 bt105.1 bt105.2 bt119.1 (bt119.2 != bt105.2)) else (peaveylaw03_GapMosts.j0 k l0 a1 bt105.1 bt105.2 bt119.1 true)) else (peaveylaw03_GapMosts.j0 k l0 a1 bt105.1 bt105.2 bt119.1 true))) else (peaveylaw03_GapMosts.j0 k l0 a1 bt105.1 bt105.2 bt119.1 true)) else (peaveylaw03_GapMosts.j0 k l0 a1 bt105.1 bt105.2 bt119.1 true)) else (peaveylaw03_GapMosts.j0 k l0 a1 bt105.1 bt105.2 bt119.1 true)) else (peaveylaw03_GapMosts.j0 k l0 a1 bt105.1 bt105.2 bt119.1 true)))))))) = some r := H
    have A7 := Aside0.mk A70
    clear A70
    replace H := Option.bind_eq_some_iff.mp H
    obtain ⟨⟨t105, t106⟩, A80, H⟩ := H
    replace H : ((gap_Fewest.f l0).bind fun bt107 => ((peaveyref03_Fewest.f k l0).bind fun bt109 => ((gap_Shape.f k l0).bind fun bt111 => ((peaveyref03_Shape.f k l0).bind fun bt115 => ((gap_Turning.f k l0 a1).bind fun bt119 => (if t103 = t105 then (if t104 = t106 then (if bt107.1 = bt109.1 then (if bt107.2 = bt109.2 then ((peaveylaw03_Ints.f k bt111.1 bt115.1).bind fun t123 => (if t123 = true then (if bt111.2 = bt115.2 then (peaveylaw03_GapMosts.j0 k l0 a1 t105 t106 bt119.1 (bt119.2 != t106)) else (peaveylaw03_GapMosts.j0 k l0 a1 t105 t106 bt119.1 true)) else (peaveylaw03_GapMosts.j0 k l0 a1 t105 t106 bt119.1 true))) else (peaveylaw03_GapMosts.j0 k l0 a1 t105 t106 bt119.1 true)) else (peaveylaw03_GapMosts.j0 k l0 a1 t105 t106 bt119.1 true)) else (peaveylaw03_GapMosts.j0 k l0 a1 t105 t106 bt119.1 true)) else (peaveylaw03_GapMosts.j0 k l0 a1 t105 t106 bt119.1 true))))))) = some r := H
    have A8 := Aside0.mk A80
    clear A80
    replace H := Option.bind_eq_some_iff.mp H
    obtain ⟨⟨t107, t108⟩, A90, H⟩ := H
    replace H : ((peaveyref03_Fewest.f k l0).bind fun bt109 => ((gap_Shape.f k l0).bind fun bt111 => ((peaveyref03_Shape.f k l0).bind fun bt115 => ((gap_Turning.f k l0 a1).bind fun bt119 => (if t103 = t105 then (if t104 = t106 then (if t107 = bt109.1 then (if t108 = bt109.2 then ((peaveylaw03_Ints.f k bt111.1 bt115.1).bind fun t123 => (if t123 = true then (if bt111.2 = bt115.2 then (peaveylaw03_GapMosts.j0 k l0 a1 t105 t106 bt119.1 (bt119.2 != t106)) else (peaveylaw03_GapMosts.j0 k l0 a1 t105 t106 bt119.1 true)) else (peaveylaw03_GapMosts.j0 k l0 a1 t105 t106 bt119.1 true))) else (peaveylaw03_GapMosts.j0 k l0 a1 t105 t106 bt119.1 true)) else (peaveylaw03_GapMosts.j0 k l0 a1 t105 t106 bt119.1 true)) else (peaveylaw03_GapMosts.j0 k l0 a1 t105 t106 bt119.1 true)) else (peaveylaw03_GapMosts.j0 k l0 a1 t105 t106 bt119.1 true)))))) = some r := H
    have A9 := Aside0.mk A90
    clear A90
    replace H := Option.bind_eq_some_iff.mp H
    obtain ⟨⟨t109, t110⟩, A100, H⟩ := H
    replace H : ((gap_Shape.f k l0).bind fun bt111 => ((peaveyref03_Shape.f k l0).bind fun bt115 => ((gap_Turning.f k l0 a1).bind fun bt119 => (if t103 = t105 then (if t104 = t106 then (if t107 = t109 then (if t108 = t110 then ((peaveylaw03_Ints.f k bt111.1 bt115.1).bind fun t123 => (if t123 = true then (if bt111.2 = bt115.2 then (peaveylaw03_GapMosts.j0 k l0 a1 t105 t106 bt119.1 (bt119.2 != t106)) else (peaveylaw03_GapMosts.j0 k l0 a1 t105 t106 bt119.1 true)) else (peaveylaw03_GapMosts.j0 k l0 a1 t105 t106 bt119.1 true))) else (peaveylaw03_GapMosts.j0 k l0 a1 t105 t106 bt119.1 true)) else (peaveylaw03_GapMosts.j0 k l0 a1 t105 t106 bt119.1 true)) else (peaveylaw03_GapMosts.j0 k l0 a1 t105 t106 bt119.1 true)) else (peaveylaw03_GapMosts.j0 k l0 a1 t105 t106 bt119.1 true))))) = some r := H
    have A10 := Aside0.mk A100
    clear A100
    replace H := Option.bind_eq_some_iff.mp H
    obtain ⟨⟨t111, t112⟩, A110, H⟩ := H
    replace H : ((peaveyref03_Shape.f k l0).bind fun bt115 => ((gap_Turning.f k l0 a1).bind fun bt119 => (if t103 = t105 then (if t104 = t106 then (if t107 = t109 then (if t108 = t110 then ((peaveylaw03_Ints.f k t111 bt115.1).bind fun t123 => (if t123 = true then (if t112 = bt115.2 then (peaveylaw03_GapMosts.j0 k l0 a1 t105 t106 bt119.1 (bt119.2 != t106)) else (peaveylaw03_GapMosts.j0 k l0 a1 t105 t106 bt119.1 true)) else (peaveylaw03_GapMosts.j0 k l0 a1 t105 t106 bt119.1 true))) else (peaveylaw03_GapMosts.j0 k l0 a1 t105 t106 bt119.1 true)) else (peaveylaw03_GapMosts.j0 k l0 a1 t105 t106 bt119.1 true)) else (peaveylaw03_GapMosts.j0 k l0 a1 t105 t106 bt119.1 true)) else (peaveylaw03_GapMosts.j0 k l0 a1 t105 t106 bt119.1 true)))) = some r := H
    have A11 := Aside0.mk A110
    clear A110
    replace H := Option.bind_eq_some_iff.mp H
    obtain ⟨⟨t115, t116⟩, A120, H⟩ := H
    replace H : ((gap_Turning.f k l0 a1).bind fun bt119 => (if t103 = t105 then (if t104 = t106 then (if t107 = t109 then (if t108 = t110 then ((peaveylaw03_Ints.f k t111 t115).bind fun t123 => (if t123 = true then (if t112 = t116 then (peaveylaw03_GapMosts.j0 k l0 a1 t105 t106 bt119.1 (bt119.2 != t106)) else (peaveylaw03_GapMosts.j0 k l0 a1 t105 t106 bt119.1 true)) else (peaveylaw03_GapMosts.j0 k l0 a1 t105 t106 bt119.1 true))) else (peaveylaw03_GapMosts.j0 k l0 a1 t105 t106 bt119.1 true)) else (peaveylaw03_GapMosts.j0 k l0 a1 t105 t106 bt119.1 true)) else (peaveylaw03_GapMosts.j0 k l0 a1 t105 t106 bt119.1 true)) else (peaveylaw03_GapMosts.j0 k l0 a1 t105 t106 bt119.1 true))) = some r := H
    have A12 := Aside0.mk A120
    clear A120
    replace H := Option.bind_eq_some_iff.mp H
    obtain ⟨⟨t119, t120⟩, A130, H⟩ := H
    replace H : (if t103 = t105 then (if t104 = t106 then (if t107 = t109 then (if t108 = t110 then ((peaveylaw03_Ints.f k t111 t115).bind fun t123 => (if t123 = true then (if t112 = t116 then (peaveylaw03_GapMosts.j0 k l0 a1 t105 t106 t119 (t120 != t106)) else (peaveylaw03_GapMosts.j0 k l0 a1 t105 t106 t119 true)) else (peaveylaw03_GapMosts.j0 k l0 a1 t105 t106 t119 true))) else (peaveylaw03_GapMosts.j0 k l0 a1 t105 t106 t119 true)) else (peaveylaw03_GapMosts.j0 k l0 a1 t105 t106 t119 true)) else (peaveylaw03_GapMosts.j0 k l0 a1 t105 t106 t119 true)) else (peaveylaw03_GapMosts.j0 k l0 a1 t105 t106 t119 true)) = some r := H
    have A13 := Aside0.mk A130
    clear A130
    have HC14 := Aside0.mk H
    clear H
    go_enter Try.func4, Try.ntmps4
    go_upto_region 10 with (first | ((with_reducible refine gate_callee (f := 17) rfl ?_); refine goesL_ (some 22) rfl rfl Try.func17 (by kernel_rfl) rfl #[.slice A0 l0.length c0] rfl (by (try simp only [List.map_toArray, List.map_cons, List.map_nil]); first | done | rfl | (simp only [List.length_drop, List.length_take]; rfl)) ?_; (with_reducible refine (peaveylaw03_great.calls _ _ l0 false _ ?side1 ?side2 A3.out).mono ?_); (case side1 => repeat (first | exact HR0.out | (with_reducible refine Kd.C_alloc ?_ _) | (with_reducible refine Kd.C_drewN ?_ _) | (with_reducible refine Kd.C_drew ?_))); (case side2 => exact HC0.out); rintro e w' ⟨rfl, ⟨nd, rfl⟩⟩; refine ⟨_, rfl, ?_⟩) | ((with_reducible refine gate_callee (f := 23) rfl ?_); refine goesL_ (some 27) rfl rfl Try.func23 (by kernel_rfl) rfl #[.slice A0 l0.length c0, .int .i64 a1] rfl (by (try simp only [List.map_toArray, List.map_cons, List.map_nil]); first | done | rfl | (simp only [List.length_drop, List.length_take]; rfl)) ?_; (with_reducible refine (gap_Most.calls k _ _ l0 a1 t103 t104 _ ?side1 ?side2 A7.out).mono ?_); (case side1 => repeat (first | exact HR0.out | (with_reducible refine Kd.C_alloc ?_ _) | (with_reducible refine Kd.C_drewN ?_ _) | (with_reducible refine Kd.C_drew ?_))); (case side2 => exact HC0.out); rintro e w15 ⟨rfl, hb⟩; refine ⟨_, rfl, ?_⟩; have n0_ := Aside0.mk (below_step (by repeat (first | (with_reducible first | exact HB.out | apply below_alloc | apply pw_below_drewN | apply below_drew1) | exact HB.out)) hb); clear HB; have HB := n0_; clear n0_; (try clear hb); (try clear hb2); (try clear hk); (try clear hi)) | ((with_reducible refine gate_callee (f := 24) rfl ?_); refine goesL_ (some 33) rfl rfl Try.func24 (by kernel_rfl) rfl #[.slice A0 l0.length c0, .int .i64 a1] rfl (by (try simp only [List.map_toArray, List.map_cons, List.map_nil]); first | done | rfl | (simp only [List.length_drop, List.length_take]; rfl)) ?_; (with_reducible refine (peaveyref03_Most.calls k _ _ l0 a1 t105 t106 _ ?side1 ?side2 A8.out).mono ?_); (case side1 => repeat (first | exact (Kd.C_below HR0.out HB.out) | (with_reducible refine Kd.C_alloc ?_ _) | (with_reducible refine Kd.C_drewN ?_ _) | (with_reducible refine Kd.C_drew ?_))); (case side2 => exact HC0.out); rintro e w16 ⟨rfl, hb⟩; refine ⟨_, rfl, ?_⟩; have n0_ := Aside0.mk (below_step (by repeat (first | (with_reducible first | exact HB.out | apply below_alloc | apply pw_below_drewN | apply below_drew1) | exact HB.out)) hb); clear HB; have HB := n0_; clear n0_; (try clear hb); (try clear hb2); (try clear hk); (try clear hi)) | ((with_reducible refine gate_callee (f := 25) rfl ?_); refine goesL_ (some 38) rfl rfl Try.func25 (by kernel_rfl) rfl #[.slice A0 l0.length c0] rfl (by (try simp only [List.map_toArray, List.map_cons, List.map_nil]); first | done | rfl | (simp only [List.length_drop, List.length_take]; rfl)) ?_; (with_reducible refine (gap_Fewest.calls _ _ l0 t107 t108 _ ?side1 ?side2 A9.out).mono ?_); (case side1 => repeat (first | exact (Kd.C_below HR0.out HB.out) | (with_reducible refine Kd.C_alloc ?_ _) | (with_reducible refine Kd.C_drewN ?_ _) | (with_reducible refine Kd.C_drew ?_))); (case side2 => exact HC0.out); rintro e w17 ⟨rfl, hb⟩; refine ⟨_, rfl, ?_⟩; have n0_ := Aside0.mk (below_step (by repeat (first | (with_reducible first | exact HB.out | apply below_alloc | apply pw_below_drewN | apply below_drew1) | exact HB.out)) hb); clear HB; have HB := n0_; clear n0_; (try clear hb); (try clear hb2); (try clear hk); (try clear hi)) | ((with_reducible refine gate_callee (f := 26) rfl ?_); refine goesL_ (some 43) rfl rfl Try.func26 (by kernel_rfl) rfl #[.slice A0 l0.length c0] rfl (by (try simp only [List.map_toArray, List.map_cons, List.map_nil]); first | done | rfl | (simp only [List.length_drop, List.length_take]; rfl)) ?_; (with_reducible refine (peaveyref03_Fewest.calls k _ _ l0 t109 t110 _ ?side1 ?side2 A10.out).mono ?_); (case side1 => repeat (first | exact (Kd.C_below HR0.out HB.out) | (with_reducible refine Kd.C_alloc ?_ _) | (with_reducible refine Kd.C_drewN ?_ _) | (with_reducible refine Kd.C_drew ?_))); (case side2 => exact HC0.out); rintro e w18 ⟨rfl, hb⟩; refine ⟨_, rfl, ?_⟩; have n0_ := Aside0.mk (below_step (by repeat (first | (with_reducible first | exact HB.out | apply below_alloc | apply pw_below_drewN | apply below_drew1) | exact HB.out)) hb); clear HB; have HB := n0_; clear n0_; (try clear hb); (try clear hb2); (try clear hk); (try clear hi)) | ((with_reducible refine gate_callee (f := 27) rfl ?_); refine goesL_ (some 48) rfl rfl Try.func27 (by kernel_rfl) rfl #[.slice A0 l0.length c0] rfl (by (try simp only [List.map_toArray, List.map_cons, List.map_nil]); first | done | rfl | (simp only [List.length_drop, List.length_take]; rfl)) ?_; (with_reducible refine (gap_Shape.calls k _ _ l0 t111 t112 _ ?side1 ?side2 A11.out).mono ?_); (case side1 => repeat (first | exact (Kd.C_below HR0.out HB.out) | (with_reducible refine Kd.C_alloc ?_ _) | (with_reducible refine Kd.C_drewN ?_ _) | (with_reducible refine Kd.C_drew ?_))); (case side2 => exact HC0.out); rintro e w19 ⟨v113, rfl, ho0, hb⟩; refine ⟨_, rfl, ?_⟩; have n0_ := Aside0.mk (Kd.R_lower ho0 (below_size (by repeat (first | (with_reducible first | exact HB.out | apply below_alloc | apply pw_below_drewN | apply below_drew1) | exact HB.out)))); have n1_ := Aside0.mk (below_step (by repeat (first | (with_reducible first | exact HB.out | apply below_alloc | apply pw_below_drewN | apply below_drew1) | exact HB.out)) hb); clear HB; have HO114 := n0_; have HB := n1_; clear n0_ n1_; (try clear hb); (try clear hb2); (try clear hk); (try clear hi); (try clear ho0)) | ((with_reducible refine gate_callee (f := 28) rfl ?_); refine goesL_ (some 53) rfl rfl Try.func28 (by kernel_rfl) rfl #[.slice A0 l0.length c0] rfl (by (try simp only [List.map_toArray, List.map_cons, List.map_nil]); first | done | rfl | (simp only [List.length_drop, List.length_take]; rfl)) ?_; (with_reducible refine (peaveyref03_Shape.calls k _ _ l0 t115 t116 _ ?side1 ?side2 A12.out).mono ?_); (case side1 => repeat (first | exact (Kd.C_below HR0.out HB.out) | (with_reducible refine Kd.C_alloc ?_ _) | (with_reducible refine Kd.C_drewN ?_ _) | (with_reducible refine Kd.C_drew ?_))); (case side2 => exact HC0.out); rintro e w20 ⟨v117, rfl, ho0, hb⟩; refine ⟨_, rfl, ?_⟩; have n0_ := Aside0.mk (Kd.R_elder' (by (with_reducible repeat (first | apply Kd.R_alloc | apply Kd.R_drewN | apply Kd.R_drew)); exact HO114.out) (Kd.R_base ho0) hb); have n1_ := Aside0.mk (Kd.R_lower (Kd.R_new' ho0 (Kd.R_lt (by (with_reducible repeat (first | apply Kd.R_alloc | apply Kd.R_drewN | apply Kd.R_drew)); exact HO114.out))) (below_size (by repeat (first | (with_reducible first | exact HB.out | apply below_alloc | apply pw_below_drewN | apply below_drew1) | exact HB.out)))); have n2_ := Aside0.mk (below_step (by repeat (first | (with_reducible first | exact HB.out | apply below_alloc | apply pw_below_drewN | apply below_drew1) | exact HB.out)) hb); clear HO114; clear HB; have HO114 := n0_; have HO118 := n1_; have HB := n2_; clear n0_ n1_ n2_; (try clear hb); (try clear hb2); (try clear hk); (try clear hi); (try clear ho0)) | ((with_reducible refine gate_callee (f := 29) rfl ?_); refine goesL_ (some 59) rfl rfl Try.func29 (by kernel_rfl) rfl #[.slice A0 l0.length c0, .int .i64 a1] rfl (by (try simp only [List.map_toArray, List.map_cons, List.map_nil]); first | done | rfl | (simp only [List.length_drop, List.length_take]; rfl)) ?_; (with_reducible refine (gap_Turning.calls k _ _ l0 a1 t119 t120 _ ?side1 ?side2 A13.out).mono ?_); (case side1 => repeat (first | exact (Kd.C_below HR0.out HB.out) | (with_reducible refine Kd.C_alloc ?_ _) | (with_reducible refine Kd.C_drewN ?_ _) | (with_reducible refine Kd.C_drew ?_))); (case side2 => exact HC0.out); rintro e w21 ⟨v121, rfl, ho0, hb⟩; refine ⟨_, rfl, ?_⟩; have n0_ := Aside0.mk (Kd.R_elder' (by (with_reducible repeat (first | apply Kd.R_alloc | apply Kd.R_drewN | apply Kd.R_drew)); exact HO114.out) (Kd.R_base ho0) hb); have n1_ := Aside0.mk (Kd.R_elder' (by (with_reducible repeat (first | apply Kd.R_alloc | apply Kd.R_drewN | apply Kd.R_drew)); exact HO118.out) (Kd.R_base ho0) hb); have n2_ := Aside0.mk (Kd.R_lower (Kd.R_new' (Kd.R_new' ho0 (Kd.R_lt (by (with_reducible repeat (first | apply Kd.R_alloc | apply Kd.R_drewN | apply Kd.R_drew)); exact HO114.out))) (Kd.R_lt (by (with_reducible repeat (first | apply Kd.R_alloc | apply Kd.R_drewN | apply Kd.R_drew)); exact HO118.out))) (below_size (by repeat (first | (with_reducible first | exact HB.out | apply below_alloc | apply pw_below_drewN | apply below_drew1) | exact HB.out)))); have n3_ := Aside0.mk (below_step (by repeat (first | (with_reducible first | exact HB.out | apply below_alloc | apply pw_below_drewN | apply below_drew1) | exact HB.out)) hb); clear HO114; clear HO118; clear HB; have HO114 := n0_; have HO118 := n1_; have HO122 := n2_; have HB := n3_; clear n0_ n1_ n2_ n3_; (try clear hb); (try clear hb2); (try clear hk); (try clear hi); (try clear ho0)))
    (try simp only [Act.put, List.setIfInBounds_toArray, List.set_cons_zero, List.set_cons_succ])
    go_cut [95] (fun v95 wc => ∃ (kq : Nat) (x95_13 : Bool), v95 = .bool x95_13 ∧ Aside0 (peaveylaw03_GapMosts.j0 kq l0 a1 t105 t106 t119 x95_13 = some r) ∧ Aside0 (kq ≤ k) ∧ Aside0 (Kd.R (Kd.int .i64) 3 wc w.heap.size (fun _ => True) v121 t119) ∧ Aside0 (Below w.heap.size w wc))
    case first =>
      have H := HC14.out
      clear HC14
      by_cases c22 : t103 = t105
      · rw [if_pos c22] at H
        have c22b0 : (t103 == t105) = true := beq_iff_eq.mpr c22
        have c22b1 : (t103 != t105) = false := bne_eq_false_iff_eq.mpr c22
        clear c22
        (first | rw [c22b0] | (simp only [i64_w, i32_w]; rw [c22b0]) | skip)
        by_cases c23 : t104 = t106
        · rw [if_pos c23] at H
          have c23b0 : (t104 == t106) = true := beq_iff_eq.mpr c23
          have c23b1 : (t104 != t106) = false := bne_eq_false_iff_eq.mpr c23
          clear c23
          by_cases c24 : t107 = t109
          · rw [if_pos c24] at H
            have c24b0 : (t107 == t109) = true := beq_iff_eq.mpr c24
            have c24b1 : (t107 != t109) = false := bne_eq_false_iff_eq.mpr c24
            clear c24
            by_cases c25 : t108 = t110
            · rw [if_pos c25] at H
              have c25b0 : (t108 == t110) = true := beq_iff_eq.mpr c25
              have c25b1 : (t108 != t110) = false := bne_eq_false_iff_eq.mpr c25
              clear c25
              replace H := Option.bind_eq_some_iff.mp H
              obtain ⟨t123, A260, H⟩ := H
              replace H : (if t123 = true then (if t112 = t116 then (peaveylaw03_GapMosts.j0 k l0 a1 t105 t106 t119 (t120 != t106)) else (peaveylaw03_GapMosts.j0 k l0 a1 t105 t106 t119 true)) else (peaveylaw03_GapMosts.j0 k l0 a1 t105 t106 t119 true)) = some r := H
              have A26 := Aside0.mk A260
              clear A260
              by_cases c27 : t123 = true
              · subst c27
                have H1 : (if t112 = t116 then (peaveylaw03_GapMosts.j0 k l0 a1 t105 t106 t119 (t120 != t106)) else (peaveylaw03_GapMosts.j0 k l0 a1 t105 t106 t119 true)) = some r := by rw [if_pos rfl] at H; exact H
                clear H
                have H := H1
                clear H1
                by_cases c28 : t112 = t116
                · rw [if_pos c28] at H
                  have c28b0 : (t112 == t116) = true := beq_iff_eq.mpr c28
                  have c28b1 : (t112 != t116) = false := bne_eq_false_iff_eq.mpr c28
                  clear c28
                  have H' := Aside0.mk H
                  clear H
                  obtain ⟨Ao29, co29, eo29⟩ := Kd.R_slice HO114.out
                  subst eo29
                  obtain ⟨Ao30, co30, eo30⟩ := Kd.R_slice HO118.out
                  subst eo30
                  go_wp2_with (first | (go_at_call 30; (with_reducible refine (peaveylaw03_Ints.calls k _ _ t111 _ _ t115 true _ ?side1 ?side2 ?side3 ?side4 A26.out).mono ?_); (case side1 => repeat (first | exact (Kd.R_reads' HO114.out).2.2 | (with_reducible refine Kd.C_alloc ?_ _) | (with_reducible refine Kd.C_drewN ?_ _) | (with_reducible refine Kd.C_drew ?_))); (case side2 => exact (Kd.R_reads' HO114.out).2.1); (case side3 => repeat (first | exact (Kd.R_reads' HO118.out).2.2 | (with_reducible refine Kd.C_alloc ?_ _) | (with_reducible refine Kd.C_drewN ?_ _) | (with_reducible refine Kd.C_drew ?_))); (case side4 => exact (Kd.R_reads' HO118.out).2.1); rintro e w' ⟨rfl, ⟨nd, rfl⟩⟩))
                  go_meet
                  case rel => exact ⟨_, ((t120 != t106)), (by first | rfl | (simp; done) | (simp [*]; done)), H', ⟨by first | omega | exact Nat.le_refl _⟩, ⟨by (with_reducible repeat (first | apply Kd.R_alloc | apply Kd.R_drewN | apply Kd.R_drew)); exact Kd.R_mono HO122.out (fun _ hk => trivial)⟩, ⟨by repeat (first | (with_reducible first | exact HB.out | apply below_alloc | apply pw_below_drewN | apply below_drew1) | exact HB.out)⟩⟩
                · rw [if_neg c28] at H
                  have c28b0 : (t112 == t116) = false := beq_eq_false_iff_ne.mpr c28
                  have c28b1 : (t112 != t116) = true := bne_iff_ne.mpr c28
                  have H' := Aside0.mk H
                  clear H
                  obtain ⟨Ao31, co31, eo31⟩ := Kd.R_slice HO114.out
                  subst eo31
                  obtain ⟨Ao32, co32, eo32⟩ := Kd.R_slice HO118.out
                  subst eo32
                  go_wp2_with (first | (go_at_call 30; (with_reducible refine (peaveylaw03_Ints.calls k _ _ t111 _ _ t115 true _ ?side1 ?side2 ?side3 ?side4 A26.out).mono ?_); (case side1 => repeat (first | exact (Kd.R_reads' HO114.out).2.2 | (with_reducible refine Kd.C_alloc ?_ _) | (with_reducible refine Kd.C_drewN ?_ _) | (with_reducible refine Kd.C_drew ?_))); (case side2 => exact (Kd.R_reads' HO114.out).2.1); (case side3 => repeat (first | exact (Kd.R_reads' HO118.out).2.2 | (with_reducible refine Kd.C_alloc ?_ _) | (with_reducible refine Kd.C_drewN ?_ _) | (with_reducible refine Kd.C_drew ?_))); (case side4 => exact (Kd.R_reads' HO118.out).2.1); rintro e w' ⟨rfl, ⟨nd, rfl⟩⟩))
                  go_meet
                  case rel => exact ⟨_, (true), (by first | rfl | (simp; done) | (simp [*]; done)), H', ⟨by first | omega | exact Nat.le_refl _⟩, ⟨by (with_reducible repeat (first | apply Kd.R_alloc | apply Kd.R_drewN | apply Kd.R_drew)); exact Kd.R_mono HO122.out (fun _ hk => trivial)⟩, ⟨by repeat (first | (with_reducible first | exact HB.out | apply below_alloc | apply pw_below_drewN | apply below_drew1) | exact HB.out)⟩⟩
              · replace c27 := Bool.eq_false_iff.mpr c27
                subst c27
                have H1 : (peaveylaw03_GapMosts.j0 k l0 a1 t105 t106 t119 true) = some r := by rw [if_neg (show ¬ (false = true) by decide)] at H; exact H
                clear H
                have H := H1
                clear H1
                have H' := Aside0.mk H
                clear H
                obtain ⟨Ao33, co33, eo33⟩ := Kd.R_slice HO114.out
                subst eo33
                obtain ⟨Ao34, co34, eo34⟩ := Kd.R_slice HO118.out
                subst eo34
                go_wp2_with (first | (go_at_call 30; (with_reducible refine (peaveylaw03_Ints.calls k _ _ t111 _ _ t115 false _ ?side1 ?side2 ?side3 ?side4 A26.out).mono ?_); (case side1 => repeat (first | exact (Kd.R_reads' HO114.out).2.2 | (with_reducible refine Kd.C_alloc ?_ _) | (with_reducible refine Kd.C_drewN ?_ _) | (with_reducible refine Kd.C_drew ?_))); (case side2 => exact (Kd.R_reads' HO114.out).2.1); (case side3 => repeat (first | exact (Kd.R_reads' HO118.out).2.2 | (with_reducible refine Kd.C_alloc ?_ _) | (with_reducible refine Kd.C_drewN ?_ _) | (with_reducible refine Kd.C_drew ?_))); (case side4 => exact (Kd.R_reads' HO118.out).2.1); rintro e w' ⟨rfl, ⟨nd, rfl⟩⟩))
                go_meet
                case rel => exact ⟨_, (true), (by first | rfl | (simp; done) | (simp [*]; done)), H', ⟨by first | omega | exact Nat.le_refl _⟩, ⟨by (with_reducible repeat (first | apply Kd.R_alloc | apply Kd.R_drewN | apply Kd.R_drew)); exact Kd.R_mono HO122.out (fun _ hk => trivial)⟩, ⟨by repeat (first | (with_reducible first | exact HB.out | apply below_alloc | apply pw_below_drewN | apply below_drew1) | exact HB.out)⟩⟩
            · rw [if_neg c25] at H
              have c25b0 : (t108 == t110) = false := beq_eq_false_iff_ne.mpr c25
              have c25b1 : (t108 != t110) = true := bne_iff_ne.mpr c25
              have H' := Aside0.mk H
              clear H
              go_wp2
              go_meet
              case rel => exact ⟨_, (true), (by first | rfl | (simp; done) | (simp [*]; done)), H', ⟨by first | omega | exact Nat.le_refl _⟩, ⟨by (with_reducible repeat (first | apply Kd.R_alloc | apply Kd.R_drewN | apply Kd.R_drew)); exact Kd.R_mono HO122.out (fun _ hk => trivial)⟩, ⟨by repeat (first | (with_reducible first | exact HB.out | apply below_alloc | apply pw_below_drewN | apply below_drew1) | exact HB.out)⟩⟩
          · rw [if_neg c24] at H
            have c24b0 : (t107 == t109) = false := beq_eq_false_iff_ne.mpr c24
            have c24b1 : (t107 != t109) = true := bne_iff_ne.mpr c24
            have H' := Aside0.mk H
            clear H
            go_wp2
            go_meet
            case rel => exact ⟨_, (true), (by first | rfl | (simp; done) | (simp [*]; done)), H', ⟨by first | omega | exact Nat.le_refl _⟩, ⟨by (with_reducible repeat (first | apply Kd.R_alloc | apply Kd.R_drewN | apply Kd.R_drew)); exact Kd.R_mono HO122.out (fun _ hk => trivial)⟩, ⟨by repeat (first | (with_reducible first | exact HB.out | apply below_alloc | apply pw_below_drewN | apply below_drew1) | exact HB.out)⟩⟩
        · rw [if_neg c23] at H
          have c23b0 : (t104 == t106) = false := beq_eq_false_iff_ne.mpr c23
          have c23b1 : (t104 != t106) = true := bne_iff_ne.mpr c23
          have H' := Aside0.mk H
          clear H
          go_wp2
          go_meet
          case rel => exact ⟨_, (true), (by first | rfl | (simp; done) | (simp [*]; done)), H', ⟨by first | omega | exact Nat.le_refl _⟩, ⟨by (with_reducible repeat (first | apply Kd.R_alloc | apply Kd.R_drewN | apply Kd.R_drew)); exact Kd.R_mono HO122.out (fun _ hk => trivial)⟩, ⟨by repeat (first | (with_reducible first | exact HB.out | apply below_alloc | apply pw_below_drewN | apply below_drew1) | exact HB.out)⟩⟩
      · rw [if_neg c22] at H
        have c22b0 : (t103 == t105) = false := beq_eq_false_iff_ne.mpr c22
        have c22b1 : (t103 != t105) = true := bne_iff_ne.mpr c22
        (first | rw [c22b0] | (simp only [i64_w, i32_w]; rw [c22b0]) | skip)
        have H' := Aside0.mk H
        clear H
        go_wp2
        go_meet
        case rel => exact ⟨_, (true), (by first | rfl | (simp; done) | (simp [*]; done)), H', ⟨by first | omega | exact Nat.le_refl _⟩, ⟨by (with_reducible repeat (first | apply Kd.R_alloc | apply Kd.R_drewN | apply Kd.R_drew)); exact Kd.R_mono HO122.out (fun _ hk => trivial)⟩, ⟨by repeat (first | (with_reducible first | exact HB.out | apply below_alloc | apply pw_below_drewN | apply below_drew1) | exact HB.out)⟩⟩
    case rest =>
      clear HC14
      try clear c1
      try clear c2
      try clear p2
      try clear c4
      try clear c17
      try clear c18
      try clear c22
      try clear c22b0
      try clear c22b1
      try clear c23
      try clear c23b0
      try clear c23b1
      try clear c24
      try clear c24b0
      try clear c24b1
      try clear c25
      try clear c25b0
      try clear c25b1
      try clear c26
      try clear c27
      try clear c28
      try clear c28b0
      try clear c28b1
      try clear c29
      obtain ⟨kq, x95_13, rfl, HA, HJ13, HO_17, HB⟩ := hcut
      cases kq with
      | zero => exact absurd HA.out (by simp [peaveylaw03_GapMosts.j0])
      | succ kj13 =>
        have H := HA.out
        clear HA
        simp only [peaveylaw03_GapMosts.j0] at H
        by_cases c35 : x95_13 = true
        · subst c35
          have H1 : (some false) = some r := by rw [if_pos rfl] at H; exact H
          clear H
          have H := H1
          clear H1
          obtain rfl := Option.some.inj H
          go_wp2
          go_ret
          exact ⟨by first | rfl | (simp [errW_none, errW_some] <;> rfl) | (simp [*, errW_none, errW_some] <;> rfl), by repeat (first | (with_reducible first | exact HB.out | apply below_alloc | apply pw_below_drewN | apply below_drew1) | exact HB.out)⟩
        · replace c35 := Bool.eq_false_iff.mpr c35
          subst c35
          have H1 : (if t106 = 0 then ((peaveyref03_CheckTurning.f kj13 l0 a1 t119).bind fun bt124 => (if bt124.2 = 0 then (if bt124.1 = t105 then ((peaveylaw03_Works.f kj13).bind fun t126 => (some t126)) else (some false)) else (some false))) else (if (t119.length : Int) = 0 then ((peaveylaw03_Works.f kj13).bind fun t127 => (some t127)) else (some false))) = some r := by rw [if_neg (show ¬ (false = true) by decide)] at H; exact H
          clear H
          have H := H1
          clear H1
          by_cases c36 : t106 = 0
          · rw [if_pos c36] at H
            have c36b0 : (t106 == 0) = true := beq_iff_eq.mpr c36
            have c36b1 : (t106 != 0) = false := bne_eq_false_iff_eq.mpr c36
            clear c36
            replace H := Option.bind_eq_some_iff.mp H
            obtain ⟨⟨t124, t125⟩, A370, H⟩ := H
            replace H : (if t125 = 0 then (if t124 = t105 then ((peaveylaw03_Works.f kj13).bind fun t126 => (some t126)) else (some false)) else (some false)) = some r := H
            have A37 := Aside0.mk A370
            clear A370
            by_cases c38 : t125 = 0
            · rw [if_pos c38] at H
              have c38b0 : (t125 == 0) = true := beq_iff_eq.mpr c38
              have c38b1 : (t125 != 0) = false := bne_eq_false_iff_eq.mpr c38
              clear c38
              by_cases c39 : t124 = t105
              · rw [if_pos c39] at H
                have c39b0 : (t124 == t105) = true := beq_iff_eq.mpr c39
                have c39b1 : (t124 != t105) = false := bne_eq_false_iff_eq.mpr c39
                clear c39
                replace H := Option.bind_eq_some_iff.mp H
                obtain ⟨t126, A400, H⟩ := H
                replace H : (some t126) = some r := H
                have A40 := Aside0.mk A400
                clear A400
                obtain rfl := Option.some.inj H
                obtain ⟨Ao41, co41, eo41⟩ := Kd.R_slice HO_17.out
                subst eo41
                go_wp2_with (first | ((with_reducible refine gate_callee (f := 20) rfl ?_); refine goesL_ (some 108) rfl rfl Try.func20 (by kernel_rfl) rfl #[.slice A0 l0.length c0, .int .i64 a1, .slice Ao41 t119.length co41] rfl (by (try simp only [List.map_toArray, List.map_cons, List.map_nil]); first | done | rfl | (simp only [List.length_drop, List.length_take]; rfl)) ?_; (with_reducible refine (peaveyref03_CheckTurning.calls kj13 _ _ l0 a1 _ _ t119 t124 t125 _ ?side1 ?side2 ?side3 ?side4 A37.out).mono ?_); (case side1 => repeat (first | exact (Kd.C_below HR0.out HB.out) | (with_reducible refine Kd.C_alloc ?_ _) | (with_reducible refine Kd.C_drewN ?_ _) | (with_reducible refine Kd.C_drew ?_))); (case side2 => exact HC0.out); (case side3 => repeat (first | exact (Kd.R_reads' HO_17.out).2.2 | (with_reducible refine Kd.C_alloc ?_ _) | (with_reducible refine Kd.C_drewN ?_ _) | (with_reducible refine Kd.C_drew ?_))); (case side4 => exact (Kd.R_reads' HO_17.out).2.1); rintro e w' ⟨rfl, ⟨nd, rfl⟩⟩; refine ⟨_, rfl, ?_⟩) | (go_at_call 18; (with_reducible refine (peaveylaw03_Works.calls kj13  t126 _ A40.out).mono ?_); rintro e w42 ⟨rfl, hb⟩; have n0_ := Aside0.mk (Kd.R_below (by (with_reducible repeat (first | apply Kd.R_alloc | apply Kd.R_drewN | apply Kd.R_drew)); exact HO_17.out) hb); have n1_ := Aside0.mk (below_step (by repeat (first | (with_reducible first | exact HB.out | apply below_alloc | apply pw_below_drewN | apply below_drew1) | exact HB.out)) hb); clear HO_17; clear HB; have HO_17 := n0_; have HB := n1_; clear n0_ n1_; (try clear hb); (try clear hb2); (try clear hk); (try clear hi)))
                go_ret
                exact ⟨by first | rfl | (simp [errW_none, errW_some] <;> rfl) | (simp [*, errW_none, errW_some] <;> rfl), by repeat (first | (with_reducible first | exact HB.out | apply below_alloc | apply pw_below_drewN | apply below_drew1) | exact HB.out)⟩
              · rw [if_neg c39] at H
                have c39b0 : (t124 == t105) = false := beq_eq_false_iff_ne.mpr c39
                have c39b1 : (t124 != t105) = true := bne_iff_ne.mpr c39
                obtain rfl := Option.some.inj H
                obtain ⟨Ao43, co43, eo43⟩ := Kd.R_slice HO_17.out
                subst eo43
                go_wp2_with (first | ((with_reducible refine gate_callee (f := 20) rfl ?_); refine goesL_ (some 108) rfl rfl Try.func20 (by kernel_rfl) rfl #[.slice A0 l0.length c0, .int .i64 a1, .slice Ao43 t119.length co43] rfl (by (try simp only [List.map_toArray, List.map_cons, List.map_nil]); first | done | rfl | (simp only [List.length_drop, List.length_take]; rfl)) ?_; (with_reducible refine (peaveyref03_CheckTurning.calls kj13 _ _ l0 a1 _ _ t119 t124 t125 _ ?side1 ?side2 ?side3 ?side4 A37.out).mono ?_); (case side1 => repeat (first | exact (Kd.C_below HR0.out HB.out) | (with_reducible refine Kd.C_alloc ?_ _) | (with_reducible refine Kd.C_drewN ?_ _) | (with_reducible refine Kd.C_drew ?_))); (case side2 => exact HC0.out); (case side3 => repeat (first | exact (Kd.R_reads' HO_17.out).2.2 | (with_reducible refine Kd.C_alloc ?_ _) | (with_reducible refine Kd.C_drewN ?_ _) | (with_reducible refine Kd.C_drew ?_))); (case side4 => exact (Kd.R_reads' HO_17.out).2.1); rintro e w' ⟨rfl, ⟨nd, rfl⟩⟩; refine ⟨_, rfl, ?_⟩))
                go_ret
                exact ⟨by first | rfl | (simp [errW_none, errW_some] <;> rfl) | (simp [*, errW_none, errW_some] <;> rfl), by repeat (first | (with_reducible first | exact HB.out | apply below_alloc | apply pw_below_drewN | apply below_drew1) | exact HB.out)⟩
            · rw [if_neg c38] at H
              have c38b0 : (t125 == 0) = false := beq_eq_false_iff_ne.mpr c38
              have c38b1 : (t125 != 0) = true := bne_iff_ne.mpr c38
              obtain rfl := Option.some.inj H
              obtain ⟨Ao44, co44, eo44⟩ := Kd.R_slice HO_17.out
              subst eo44
              go_wp2_with (first | ((with_reducible refine gate_callee (f := 20) rfl ?_); refine goesL_ (some 108) rfl rfl Try.func20 (by kernel_rfl) rfl #[.slice A0 l0.length c0, .int .i64 a1, .slice Ao44 t119.length co44] rfl (by (try simp only [List.map_toArray, List.map_cons, List.map_nil]); first | done | rfl | (simp only [List.length_drop, List.length_take]; rfl)) ?_; (with_reducible refine (peaveyref03_CheckTurning.calls kj13 _ _ l0 a1 _ _ t119 t124 t125 _ ?side1 ?side2 ?side3 ?side4 A37.out).mono ?_); (case side1 => repeat (first | exact (Kd.C_below HR0.out HB.out) | (with_reducible refine Kd.C_alloc ?_ _) | (with_reducible refine Kd.C_drewN ?_ _) | (with_reducible refine Kd.C_drew ?_))); (case side2 => exact HC0.out); (case side3 => repeat (first | exact (Kd.R_reads' HO_17.out).2.2 | (with_reducible refine Kd.C_alloc ?_ _) | (with_reducible refine Kd.C_drewN ?_ _) | (with_reducible refine Kd.C_drew ?_))); (case side4 => exact (Kd.R_reads' HO_17.out).2.1); rintro e w' ⟨rfl, ⟨nd, rfl⟩⟩; refine ⟨_, rfl, ?_⟩))
              go_ret
              exact ⟨by first | rfl | (simp [errW_none, errW_some] <;> rfl) | (simp [*, errW_none, errW_some] <;> rfl), by repeat (first | (with_reducible first | exact HB.out | apply below_alloc | apply pw_below_drewN | apply below_drew1) | exact HB.out)⟩
          · rw [if_neg c36] at H
            have c36b0 : (t106 == 0) = false := beq_eq_false_iff_ne.mpr c36
            have c36b1 : (t106 != 0) = true := bne_iff_ne.mpr c36
            by_cases c45 : (t119.length : Int) = 0
            · rw [if_pos c45] at H
              have c45b0 : ((t119.length : Int) == 0) = true := beq_iff_eq.mpr c45
              have c45b1 : ((t119.length : Int) != 0) = false := bne_eq_false_iff_eq.mpr c45
              clear c45
              replace H := Option.bind_eq_some_iff.mp H
              obtain ⟨t127, A460, H⟩ := H
              replace H : (some t127) = some r := H
              have A46 := Aside0.mk A460
              clear A460
              obtain rfl := Option.some.inj H
              obtain ⟨Ao47, co47, eo47⟩ := Kd.R_slice HO_17.out
              subst eo47
              go_wp2_with (first | (go_at_call 18; (with_reducible refine (peaveylaw03_Works.calls kj13  t127 _ A46.out).mono ?_); rintro e w48 ⟨rfl, hb⟩; have n0_ := Aside0.mk (Kd.R_below (by (with_reducible repeat (first | apply Kd.R_alloc | apply Kd.R_drewN | apply Kd.R_drew)); exact HO_17.out) hb); have n1_ := Aside0.mk (below_step (by repeat (first | (with_reducible first | exact HB.out | apply below_alloc | apply pw_below_drewN | apply below_drew1) | exact HB.out)) hb); clear HO_17; clear HB; have HO_17 := n0_; have HB := n1_; clear n0_ n1_; (try clear hb); (try clear hb2); (try clear hk); (try clear hi)))
              go_ret
              exact ⟨by first | rfl | (simp [errW_none, errW_some] <;> rfl) | (simp [*, errW_none, errW_some] <;> rfl), by repeat (first | (with_reducible first | exact HB.out | apply below_alloc | apply pw_below_drewN | apply below_drew1) | exact HB.out)⟩
            · rw [if_neg c45] at H
              have c45b0 : ((t119.length : Int) == 0) = false := beq_eq_false_iff_ne.mpr c45
              have c45b1 : ((t119.length : Int) != 0) = true := bne_iff_ne.mpr c45
              have c45b2 : ¬ (t119 = []) := fun h_ => c45 (by rw [h_]; rfl)
              obtain rfl := Option.some.inj H
              obtain ⟨Ao49, co49, eo49⟩ := Kd.R_slice HO_17.out
              subst eo49
              go_wp2
              go_ret
              exact ⟨by first | rfl | (simp [errW_none, errW_some] <;> rfl) | (simp [*, errW_none, errW_some] <;> rfl), by repeat (first | (with_reducible first | exact HB.out | apply below_alloc | apply pw_below_drewN | apply below_drew1) | exact HB.out)⟩

/-- THE ONE PURE STATEMENT of peaveylaw03_GapMosts: yours. -/
def peaveylaw03_GapMosts.Pure : Prop := ∀ (l0 : List Int) (a1 : Int), l0.length ≤ maxLen → l0.length * 8 ≤ 140737488351232 → (∀ x ∈ l0, (Lit.int .i64 x).wf = true) → (Lit.int .i64 a1).wf = true → ∃ k, peaveylaw03_GapMosts.f k l0 a1 = some true
theorem peaveylaw03_GapMosts.walk (P : peaveylaw03_GapMosts.Pure) (a0 : Option Addr) (len0 cap0 : Nat) (z0 : List Int) (a1 : Int) (w : World) (w0 : (a0 = none ∧ len0 = 0 ∧ cap0 = 0 ∧ z0 = []) ∨ ∃ x, a0 = some x ∧ len0 ≤ cap0 ∧ cap0 ≤ maxLen ∧ z0.length = cap0 ∧ (∀ i, i < z0.length → w.cell? (x.add i) = some (.int .i64 (z0.getD i 0))) ∧ ∀ n ∈ z0, (Lit.int .i64 n).wf = true) (y0 : len0 * 8 ≤ 140737488351232) (w1 : (Lit.int .i64 a1).wf = true) :
    Calls Try.prog 4 #[.slice a0 len0 cap0, .int .i64 a1] w fun e w' => e = .returned (.bool true) ∧ Below w.heap.size w w' := by
  obtain ⟨l0, rfl, hr0, hm0, hw0, hc0⟩ := ReadsInt.ofRowC w0
  obtain ⟨k, h⟩ := P l0 a1 hm0 y0 hw0 w1
  refine (peaveylaw03_GapMosts.calls k _ _ l0 a1 true w (Kd.C_of_reads (d := (0 : Int)) (h1 := fun _ => rfl) hr0) hc0 h).mono ?_
  rintro e w' ⟨rfl, hd⟩
  exact ⟨rfl, hd⟩

end Go.Proofs.Ytmfonbonfhngnaa.Gmost
