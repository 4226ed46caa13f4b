/- The machine's side of some functions: each Go function as a plain Lean function, and a proof that its call comes to what that says. Written by a program of the session's over the kit's print. -/
import Derived.Test.YtmfonbonfhngnaaGeith0
namespace Go.Proofs.Ytmfonbonfhngnaa.Geith
open Go.RowKit Go.Proofs.YtmfonbonfhngnaaW.PrintWords Go.Proofs.YtmfonbonfhngnaaW.PrintLast Go.Proofs.YtmfonbonfhngnaaW.PrintMore Go.Proofs.Ytmfonbonfhngnaa.Hand Go.Proofs.Ytmfonbonfhngnaa.PrA Go.Proofs.Ytmfonbonfhngnaa.PrR Go.Proofs.Ytmfonbonfhngnaa.PrL
attribute [local go_sem] max2_int min2_int max_two min_two max_three min_three max_four min_four   -- for this text's walks alone
set_option linter.unusedVariables false
set_option linter.unusedSimpArgs false

-- GIVEN: function 18 (peaveylaw03_Works)

-- GIVEN: function 19 (gap_CheckTurning)

-- GIVEN: function 20 (peaveyref03_CheckTurning)

-- GIVEN: function 25 (gap_Fewest)

-- GIVEN: function 29 (gap_Turning)

-- GIVEN: function 39 (peaveylaw03_fine)

-- GIVEN: function 40 (peaveylaw03_pockets)

-- GIVEN: function 43 (gap_Run)

-- GIVEN: function 45 (gap_CheckRun)

-- GIVEN: function 46 (peaveyref03_CheckRun)

/-! ### peaveylaw03_GapEither: function 14 -/
mutual
def peaveylaw03_GapEither.j0 : Nat → List Int → Int → List Int → List Int → Bool → Option (Bool)
  | 0, _, _, _, _, _ => none
  | k + 1, x0, x1, x2, x3, x31 => if x31 = true then ((peaveylaw03_Works.f k).bind fun t102 => (some t102)) else ((peaveylaw03_pockets.f x1).bind fun t103 => ((gap_Fewest.f x0).bind fun bt104 => ((gap_Run.f x0).bind fun bt106 => ((gap_Turning.f k x0 t103).bind fun bt110 => (if bt104.2 = 0 then (if bt106.2 = 0 then (if bt110.2 = 0 then (if bt104.1 = (bt106.1.length : Int) then ((peaveyref03_CheckRun.f k x0 bt106.1).bind fun t114 => (if t114 = 0 then ((gap_CheckRun.f k x0 bt106.1).bind fun t115 => (peaveylaw03_GapEither.j1 k x0 x2 x3 t103 bt104.1 bt110.1 (t115 != 0))) else (peaveylaw03_GapEither.j1 k x0 x2 x3 t103 bt104.1 bt110.1 true))) else (peaveylaw03_GapEither.j1 k x0 x2 x3 t103 bt104.1 bt110.1 true)) else (peaveylaw03_GapEither.j1 k x0 x2 x3 t103 bt104.1 bt110.1 true)) else (peaveylaw03_GapEither.j1 k x0 x2 x3 t103 bt104.1 bt110.1 true)) else (peaveylaw03_GapEither.j1 k x0 x2 x3 t103 bt104.1 bt110.1 true))))))
def peaveylaw03_GapEither.j1 : Nat → List Int → List Int → List Int → Int → Int → List Int → Bool → Option (Bool)
  | 0, _, _, _, _, _, _, _ => none
  | k + 1, x0, x2, x3, x9, x10, x14, x78 => if x78 = true then (some false) else ((gap_CheckTurning.f x0 x9 x14).bind fun bt116 => ((peaveyref03_CheckTurning.f k x0 x9 x14).bind fun bt118 => (if bt116.2 = 0 then (if bt118.2 = 0 then (if bt116.1 = bt118.1 then (peaveylaw03_GapEither.j2 k x0 x2 x3 x9 x10 ((bt116.1 == (x0.length : Int)) != (decide (x10 ≤ x9)))) else (peaveylaw03_GapEither.j2 k x0 x2 x3 x9 x10 true)) else (peaveylaw03_GapEither.j2 k x0 x2 x3 x9 x10 true)) else (peaveylaw03_GapEither.j2 k x0 x2 x3 x9 x10 true))))
def peaveylaw03_GapEither.j2 : Nat → List Int → List Int → List Int → Int → Int → Bool → Option (Bool)
  | 0, _, _, _, _, _, _ => none
  | k + 1, x0, x2, x3, x9, x10, x113 => if x113 = true then (some false) else ((gap_CheckRun.f k x0 x2).bind fun t120 => (if t120 = 0 then (peaveylaw03_GapEither.j3 k x0 x3 x9 x10 (decide ((x2.length : Int) > x10))) else (peaveylaw03_GapEither.j3 k x0 x3 x9 x10 false)))
def peaveylaw03_GapEither.j3 : Nat → List Int → List Int → Int → Int → Bool → Option (Bool)
  | 0, _, _, _, _, _ => none
  | k + 1, x0, x3, x9, x10, x123 => if x123 = true then (some false) else ((gap_CheckTurning.f x0 x9 x3).bind fun bt121 => (if bt121.2 = 0 then (if bt121.1 < (x0.length : Int) then ((peaveylaw03_Works.f k).bind fun t123 => (some t123)) else (if x10 ≤ x9 then ((peaveylaw03_Works.f k).bind fun t124 => (some t124)) else (some false))) else ((peaveylaw03_Works.f k).bind fun t125 => (some t125))))
end
def peaveylaw03_GapEither.f (k : Nat) (l0 : List Int) (a1 : Int) (l2 : List Int) (l3 : List Int) : Option (Bool) := (peaveylaw03_fine.f k l0).bind fun t101 => (if t101 = true then (if (l2.length : Int) > 40 then (peaveylaw03_GapEither.j0 k l0 a1 l2 l3 true) else (peaveylaw03_GapEither.j0 k l0 a1 l2 l3 (decide ((l3.length : Int) > 40)))) else (peaveylaw03_GapEither.j0 k l0 a1 l2 l3 true))
theorem peaveylaw03_GapEither.mono_l : ∀ k, (∀ y0 y1 y2 y3 y4, LeO (peaveylaw03_GapEither.j0 k y0 y1 y2 y3 y4) (peaveylaw03_GapEither.j0 (k + 1) y0 y1 y2 y3 y4)) ∧ (∀ y0 y1 y2 y3 y4 y5 y6, LeO (peaveylaw03_GapEither.j1 k y0 y1 y2 y3 y4 y5 y6) (peaveylaw03_GapEither.j1 (k + 1) y0 y1 y2 y3 y4 y5 y6)) ∧ (∀ y0 y1 y2 y3 y4 y5, LeO (peaveylaw03_GapEither.j2 k y0 y1 y2 y3 y4 y5) (peaveylaw03_GapEither.j2 (k + 1) y0 y1 y2 y3 y4 y5)) ∧ (∀ y0 y1 y2 y3 y4, LeO (peaveylaw03_GapEither.j3 k y0 y1 y2 y3 y4) (peaveylaw03_GapEither.j3 (k + 1) y0 y1 y2 y3 y4))
  | 0 => ⟨fun _ _ _ _ _ r h => by simp [peaveylaw03_GapEither.j0] at h, fun _ _ _ _ _ _ _ r h => by simp [peaveylaw03_GapEither.j1] at h, fun _ _ _ _ _ _ r h => by simp [peaveylaw03_GapEither.j2] at h, fun _ _ _ _ _ r h => by simp [peaveylaw03_GapEither.j3] at h⟩
  | k + 1 => by
    obtain ⟨ih0, ih1, ih2, ih3⟩ := peaveylaw03_GapEither.mono_l k
    refine ⟨?_, ?_, ?_, ?_⟩
    · intro y0 y1 y2 y3 y4
      unfold peaveylaw03_GapEither.j0
      repeat' first
      | (with_reducible exact ih0 _ _ _ _ _)
      | (with_reducible exact ih1 _ _ _ _ _ _ _)
      | (with_reducible exact ih2 _ _ _ _ _ _)
      | (with_reducible exact ih3 _ _ _ _ _)
      | (with_reducible exact gap_CheckRun.mono _ _ _)
      | (with_reducible exact gap_Turning.mono _ _ _)
      | (with_reducible exact peaveylaw03_Works.mono _)
      | (with_reducible exact peaveylaw03_fine.mono _ _)
      | (with_reducible exact peaveyref03_CheckRun.mono _ _ _)
      | (with_reducible exact peaveyref03_CheckTurning.mono _ _ _ _)
      | (with_reducible exact LeO.refl _)
      | (with_reducible exact LeO.none _)
      | (with_reducible refine LeO.ite ?_ ?_)
      | (with_reducible refine LeO.bind ?_ (fun _ => ?_))
      | exact ih0 _ _ _ _ _
      | exact ih1 _ _ _ _ _ _ _
      | exact ih2 _ _ _ _ _ _
      | exact ih3 _ _ _ _ _
      | exact gap_CheckRun.mono _ _ _
      | exact gap_Turning.mono _ _ _
      | exact peaveylaw03_Works.mono _
      | exact peaveylaw03_fine.mono _ _
      | exact peaveyref03_CheckRun.mono _ _ _
      | exact peaveyref03_CheckTurning.mono _ _ _ _
      | exact LeO.none _
      | refine LeO.ite ?_ ?_
      | refine LeO.bind ?_ (fun _ => ?_)
    · intro y0 y1 y2 y3 y4 y5 y6
      unfold peaveylaw03_GapEither.j1
      repeat' first
      | (with_reducible exact ih0 _ _ _ _ _)
      | (with_reducible exact ih1 _ _ _ _ _ _ _)
      | (with_reducible exact ih2 _ _ _ _ _ _)
      | (with_reducible exact ih3 _ _ _ _ _)
      | (with_reducible exact gap_CheckRun.mono _ _ _)
      | (with_reducible exact gap_Turning.mono _ _ _)
      | (with_reducible exact peaveylaw03_Works.mono _)
      | (with_reducible exact peaveylaw03_fine.mono _ _)
      | (with_reducible exact peaveyref03_CheckRun.mono _ _ _)
      | (with_reducible exact peaveyref03_CheckTurning.mono _ _ _ _)
      | (with_reducible exact LeO.refl _)
      | (with_reducible exact LeO.none _)
      | (with_reducible refine LeO.ite ?_ ?_)
      | (with_reducible refine LeO.bind ?_ (fun _ => ?_))
      | exact ih0 _ _ _ _ _
      | exact ih1 _ _ _ _ _ _ _
      | exact ih2 _ _ _ _ _ _
      | exact ih3 _ _ _ _ _
      | exact gap_CheckRun.mono _ _ _
      | exact gap_Turning.mono _ _ _
      | exact peaveylaw03_Works.mono _
      | exact peaveylaw03_fine.mono _ _
      | exact peaveyref03_CheckRun.mono _ _ _
      | exact peaveyref03_CheckTurning.mono _ _ _ _
      | exact LeO.none _
      | refine LeO.ite ?_ ?_
      | refine LeO.bind ?_ (fun _ => ?_)
    · intro y0 y1 y2 y3 y4 y5
      unfold peaveylaw03_GapEither.j2
      repeat' first
      | (with_reducible exact ih0 _ _ _ _ _)
      | (with_reducible exact ih1 _ _ _ _ _ _ _)
      | (with_reducible exact ih2 _ _ _ _ _ _)
      | (with_reducible exact ih3 _ _ _ _ _)
      | (with_reducible exact gap_CheckRun.mono _ _ _)
      | (with_reducible exact gap_Turning.mono _ _ _)
      | (with_reducible exact peaveylaw03_Works.mono _)
      | (with_reducible exact peaveylaw03_fine.mono _ _)
      | (with_reducible exact peaveyref03_CheckRun.mono _ _ _)
      | (with_reducible exact peaveyref03_CheckTurning.mono _ _ _ _)
      | (with_reducible exact LeO.refl _)
      | (with_reducible exact LeO.none _)
      | (with_reducible refine LeO.ite ?_ ?_)
      | (with_reducible refine LeO.bind ?_ (fun _ => ?_))
      | exact ih0 _ _ _ _ _
      | exact ih1 _ _ _ _ _ _ _
      | exact ih2 _ _ _ _ _ _
      | exact ih3 _ _ _ _ _
      | exact gap_CheckRun.mono _ _ _
      | exact gap_Turning.mono _ _ _
      | exact peaveylaw03_Works.mono _
      | exact peaveylaw03_fine.mono _ _
      | exact peaveyref03_CheckRun.mono _ _ _
      | exact peaveyref03_CheckTurning.mono _ _ _ _
      | exact LeO.none _
      | refine LeO.ite ?_ ?_
      | refine LeO.bind ?_ (fun _ => ?_)
    · intro y0 y1 y2 y3 y4
      unfold peaveylaw03_GapEither.j3
      repeat' first
      | (with_reducible exact ih0 _ _ _ _ _)
      | (with_reducible exact ih1 _ _ _ _ _ _ _)
      | (with_reducible exact ih2 _ _ _ _ _ _)
      | (with_reducible exact ih3 _ _ _ _ _)
      | (with_reducible exact gap_CheckRun.mono _ _ _)
      | (with_reducible exact gap_Turning.mono _ _ _)
      | (with_reducible exact peaveylaw03_Works.mono _)
      | (with_reducible exact peaveylaw03_fine.mono _ _)
      | (with_reducible exact peaveyref03_CheckRun.mono _ _ _)
      | (with_reducible exact peaveyref03_CheckTurning.mono _ _ _ _)
      | (with_reducible exact LeO.refl _)
      | (with_reducible exact LeO.none _)
      | (with_reducible refine LeO.ite ?_ ?_)
      | (with_reducible refine LeO.bind ?_ (fun _ => ?_))
      | exact ih0 _ _ _ _ _
      | exact ih1 _ _ _ _ _ _ _
      | exact ih2 _ _ _ _ _ _
      | exact ih3 _ _ _ _ _
      | exact gap_CheckRun.mono _ _ _
      | exact gap_Turning.mono _ _ _
      | exact peaveylaw03_Works.mono _
      | exact peaveylaw03_fine.mono _ _
      | exact peaveyref03_CheckRun.mono _ _ _
      | exact peaveyref03_CheckTurning.mono _ _ _ _
      | exact LeO.none _
      | refine LeO.ite ?_ ?_
      | refine LeO.bind ?_ (fun _ => ?_)
theorem peaveylaw03_GapEither.mono : ∀ a0 a1 a2 a3 k, LeO (peaveylaw03_GapEither.f k a0 a1 a2 a3) (peaveylaw03_GapEither.f (k + 1) a0 a1 a2 a3) := by
  intro a0 a1 a2 a3 k
  obtain ⟨ih0, ih1, ih2, ih3⟩ := peaveylaw03_GapEither.mono_l k
  unfold peaveylaw03_GapEither.f
  repeat' first
      | (with_reducible exact ih0 _ _ _ _ _)
      | (with_reducible exact ih1 _ _ _ _ _ _ _)
      | (with_reducible exact ih2 _ _ _ _ _ _)
      | (with_reducible exact ih3 _ _ _ _ _)
      | (with_reducible exact gap_CheckRun.mono _ _ _)
      | (with_reducible exact gap_Turning.mono _ _ _)
      | (with_reducible exact peaveylaw03_Works.mono _)
      | (with_reducible exact peaveylaw03_fine.mono _ _)
      | (with_reducible exact peaveyref03_CheckRun.mono _ _ _)
      | (with_reducible exact peaveyref03_CheckTurning.mono _ _ _ _)
      | (with_reducible exact LeO.refl _)
      | (with_reducible exact LeO.none _)
      | (with_reducible refine LeO.ite ?_ ?_)
      | (with_reducible refine LeO.bind ?_ (fun _ => ?_))
      | exact ih0 _ _ _ _ _
      | exact ih1 _ _ _ _ _ _ _
      | exact ih2 _ _ _ _ _ _
      | exact ih3 _ _ _ _ _
      | exact gap_CheckRun.mono _ _ _
      | exact gap_Turning.mono _ _ _
      | exact peaveylaw03_Works.mono _
      | exact peaveylaw03_fine.mono _ _
      | exact peaveyref03_CheckRun.mono _ _ _
      | exact peaveyref03_CheckTurning.mono _ _ _ _
      | exact LeO.none _
      | refine LeO.ite ?_ ?_
      | refine LeO.bind ?_ (fun _ => ?_)
set_option maxHeartbeats 8000000 in
set_option maxRecDepth 100000 in
theorem peaveylaw03_GapEither.calls (k : Nat) (A0 : Option Addr) (c0 : Nat) (l0 : List Int) (a1 : Int) (A2 : Option Addr) (c2 : Nat) (l2 : List Int) (A3 : Option Addr) (c3 : Nat) (l3 : List Int) (r : Bool) (w : World) (hr0 : Kd.C (Kd.int .i64) w A0 l0.length l0) (hc0 : l0.length ≤ c0) (hr2 : Kd.C (Kd.int .i64) w A2 l2.length l2) (hc2 : l2.length ≤ c2) (hr3 : Kd.C (Kd.int .i64) w A3 l3.length l3) (hc3 : l3.length ≤ c3) (h : peaveylaw03_GapEither.f k l0 a1 l2 l3 = some r) :
    Calls Try.prog 14 #[.slice A0 l0.length c0, .int .u8 a1, .slice A2 l2.length c2, .slice A3 l3.length c3] w fun e w' => e = .returned (.bool r) ∧ Below w.heap.size w w' := by
  have HR0 := Aside0.mk hr0
  have HC0 := Aside0.mk hc0
  clear hr0 hc0
  have HR2 := Aside0.mk hr2
  have HC2 := Aside0.mk hc2
  clear hr2 hc2
  have HR3 := Aside0.mk hr3
  have HC3 := Aside0.mk hc3
  clear hr3 hc3
  have HB := Aside0.mk (Below.refl w.heap.size w)
  have H : ((peaveylaw03_fine.f k l0).bind fun t101 => (if t101 = true then (if (l2.length : Int) > 40 then (peaveylaw03_GapEither.j0 k l0 a1 l2 l3 true) else (peaveylaw03_GapEither.j0 k l0 a1 l2 l3 (decide ((l3.length : Int) > 40)))) else (peaveylaw03_GapEither.j0 k l0 a1 l2 l3 true))) = some r := h
  clear h
  have HC5 := Aside0.mk H
  clear H
  go_enter Try.func14, Try.ntmps14
  go_upto_region 1 with (fail)
  go_cut [31] (fun v31 wc => ∃ (kq : Nat) (x31_4 : Bool), v31 = .bool x31_4 ∧ Aside0 (peaveylaw03_GapEither.j0 kq l0 a1 l2 l3 x31_4 = some r) ∧ Aside0 (kq ≤ k) ∧ Aside0 (Below w.heap.size w wc))
  case first =>
    have H := HC5.out
    clear HC5
    replace H := Option.bind_eq_some_iff.mp H
    obtain ⟨t101, A60, H⟩ := H
    replace H : (if t101 = true then (if (l2.length : Int) > 40 then (peaveylaw03_GapEither.j0 k l0 a1 l2 l3 true) else (peaveylaw03_GapEither.j0 k l0 a1 l2 l3 (decide ((l3.length : Int) > 40)))) else (peaveylaw03_GapEither.j0 k l0 a1 l2 l3 true)) = some r := H
    have A6 := Aside0.mk A60
    clear A60
    by_cases c7 : t101 = true
    · subst c7
      have H1 : (if (l2.length : Int) > 40 then (peaveylaw03_GapEither.j0 k l0 a1 l2 l3 true) else (peaveylaw03_GapEither.j0 k l0 a1 l2 l3 (decide ((l3.length : Int) > 40)))) = some r := by rw [if_pos rfl] at H; exact H
      clear H
      have H := H1
      clear H1
      by_cases c8 : (l2.length : Int) > 40
      · rw [if_pos c8] at H
        have c8b0 : decide (40 < (l2.length : Int)) = true := decide_eq_true c8
        have c8b1 : decide (40 < l2.length) = true := decide_eq_true (by omega)
        clear c8
        (first | rw [c8b0] | (simp only [i64_w, i32_w]; rw [c8b0]) | skip)
        have H' := Aside0.mk H
        clear H
        go_wp2_with (first | ((with_reducible refine gate_callee (f := 39) rfl ?_); refine goesL_ (some 20) rfl rfl Try.func39 (by kernel_rfl) rfl #[.slice A0 l0.length c0] rfl (by (try simp only [List.map_toArray, List.map_cons, List.map_nil]); first | done | rfl | (simp only [List.length_drop, List.length_take]; rfl)) ?_; (with_reducible refine (peaveylaw03_fine.calls k _ _ l0 true _ ?side1 ?side2 A6.out).mono ?_); (case side1 => repeat (first | exact (Kd.C_below HR0.out HB.out) | (with_reducible refine Kd.C_alloc ?_ _) | (with_reducible refine Kd.C_drewN ?_ _) | (with_reducible refine Kd.C_drew ?_))); (case side2 => exact HC0.out); rintro e w' ⟨rfl, ⟨nd, rfl⟩⟩; refine ⟨_, rfl, ?_⟩))
        go_meet
        case rel => exact ⟨_, (true), (by first | rfl | (simp; done) | (simp [*]; done)), H', ⟨by first | omega | exact Nat.le_refl _⟩, ⟨by repeat (first | (with_reducible first | exact HB.out | apply below_alloc | apply pw_below_drewN | apply below_drew1) | exact HB.out)⟩⟩
      · rw [if_neg c8] at H
        have c8b0 : decide (40 < (l2.length : Int)) = false := decide_eq_false c8
        have c8b1 : decide (40 < l2.length) = false := decide_eq_false (by omega)
        clear c8
        (first | rw [c8b0] | (simp only [i64_w, i32_w]; rw [c8b0]) | skip)
        have H' := Aside0.mk H
        clear H
        go_wp2_with (first | ((with_reducible refine gate_callee (f := 39) rfl ?_); refine goesL_ (some 20) rfl rfl Try.func39 (by kernel_rfl) rfl #[.slice A0 l0.length c0] rfl (by (try simp only [List.map_toArray, List.map_cons, List.map_nil]); first | done | rfl | (simp only [List.length_drop, List.length_take]; rfl)) ?_; (with_reducible refine (peaveylaw03_fine.calls k _ _ l0 true _ ?side1 ?side2 A6.out).mono ?_); (case side1 => repeat (first | exact (Kd.C_below HR0.out HB.out) | (with_reducible refine Kd.C_alloc ?_ _) | (with_reducible refine Kd.C_drewN ?_ _) | (with_reducible refine Kd.C_drew ?_))); (case side2 => exact HC0.out); rintro e w' ⟨rfl, ⟨nd, rfl⟩⟩; refine ⟨_, rfl, ?_⟩))
        go_meet
        case rel => exact ⟨_, (decide ((l3.length : Int) > 40)), (by first | rfl | (simp; done) | (simp [*]; done)), H', ⟨by first | omega | exact Nat.le_refl _⟩, ⟨by repeat (first | (with_reducible first | exact HB.out | apply below_alloc | apply pw_below_drewN | apply below_drew1) | exact HB.out)⟩⟩
    · replace c7 := Bool.eq_false_iff.mpr c7
      subst c7
      have H1 : (peaveylaw03_GapEither.j0 k l0 a1 l2 l3 true) = some r := by rw [if_neg (show ¬ (false = true) by decide)] at H; exact H
      clear H
      have H := H1
      clear H1
      have H' := Aside0.mk H
      clear H
      go_wp2_with (first | ((with_reducible refine gate_callee (f := 39) rfl ?_); refine goesL_ (some 20) rfl rfl Try.func39 (by kernel_rfl) rfl #[.slice A0 l0.length c0] rfl (by (try simp only [List.map_toArray, List.map_cons, List.map_nil]); first | done | rfl | (simp only [List.length_drop, List.length_take]; rfl)) ?_; (with_reducible refine (peaveylaw03_fine.calls k _ _ l0 false _ ?side1 ?side2 A6.out).mono ?_); (case side1 => repeat (first | exact (Kd.C_below HR0.out HB.out) | (with_reducible refine Kd.C_alloc ?_ _) | (with_reducible refine Kd.C_drewN ?_ _) | (with_reducible refine Kd.C_drew ?_))); (case side2 => exact HC0.out); rintro e w' ⟨rfl, ⟨nd, rfl⟩⟩; refine ⟨_, rfl, ?_⟩))
      go_meet
      case rel => exact ⟨_, (true), (by first | rfl | (simp; done) | (simp [*]; done)), H', ⟨by first | omega | exact Nat.le_refl _⟩, ⟨by repeat (first | (with_reducible first | exact HB.out | apply below_alloc | apply pw_below_drewN | apply below_drew1) | exact HB.out)⟩⟩
  case rest =>
    clear HC5
    try clear c1
    try clear c2
    try clear p2
    try clear c3
    try clear c7
    try clear c8
    try clear c8b0
    try clear c8b1
    obtain ⟨kq, x31_4, rfl, HA, HJ4, HB⟩ := hcut
    cases kq with
    | zero => exact absurd HA.out (by simp [peaveylaw03_GapEither.j0])
    | succ kj4 =>
      have H := HA.out
      clear HA
      simp only [peaveylaw03_GapEither.j0] at H
      by_cases c9 : x31_4 = true
      · subst c9
        have H1 : ((peaveylaw03_Works.f kj4).bind fun t102 => (some t102)) = some r := by rw [if_pos rfl] at H; exact H
        clear H
        have H := H1
        clear H1
        replace H := Option.bind_eq_some_iff.mp H
        obtain ⟨t102, A100, H⟩ := H
        replace H : (some t102) = some r := H
        have A10 := Aside0.mk A100
        clear A100
        obtain rfl := Option.some.inj H
        go_wp2_with (first | ((with_reducible refine gate_callee (f := 18) rfl ?_); refine goesL_ (some 32) rfl rfl Try.func18 (by kernel_rfl) rfl #[] rfl (by (try simp only [List.map_toArray, List.map_cons, List.map_nil]); first | done | rfl | (simp only [List.length_drop, List.length_take]; rfl)) ?_; (with_reducible refine (peaveylaw03_Works.calls kj4  t102 _ A10.out).mono ?_); rintro e w11 ⟨rfl, hb⟩; refine ⟨_, rfl, ?_⟩; have n0_ := Aside0.mk (below_step (by repeat (first | (with_reducible first | exact HB.out | apply below_alloc | apply pw_below_drewN | apply below_drew1) | exact HB.out)) hb); clear HB; have HB := n0_; clear n0_; (try clear hb); (try clear hb2); (try clear hk); (try clear hi)))
        go_ret
        exact ⟨by first | rfl | (simp [errW_none, errW_some] <;> rfl) | (simp [*, errW_none, errW_some] <;> rfl), by repeat (first | (with_reducible first | exact HB.out | apply below_alloc | apply pw_below_drewN | apply below_drew1) | exact HB.out)⟩
      · replace c9 := Bool.eq_false_iff.mpr c9
        subst c9
        have H1 : ((peaveylaw03_pockets.f a1).bind fun t103 => ((gap_Fewest.f l0).bind fun bt104 => ((gap_Run.f l0).bind fun bt106 => ((gap_Turning.f kj4 l0 t103).bind fun bt110 => (if bt104.2 = 0 then (if bt106.2 = 0 then (if bt110.2 = 0 then (if bt104.1 = (bt106.1.length : Int) then ((peaveyref03_CheckRun.f kj4 l0 bt106.1).bind fun t114 => (if t114 = 0 then ((gap_CheckRun.f kj4 l0 bt106.1).bind fun t115 => (peaveylaw03_GapEither.j1 kj4 l0 l2 l3 t103 bt104.1 bt110.1 (t115 != 0))) else (peaveylaw03_GapEither.j1 kj4 l0 l2 l3 t103 bt104.1 bt110.1 true))) else (peaveylaw03_GapEither.j1 kj4 l0 l2 l3 t103 bt104.1 bt110.1 true)) else (peaveylaw03_GapEither.j1 kj4 l0 l2 l3 t103 bt104.1 bt110.1 true)) else (peaveylaw03_GapEither.j1 kj4 l0 l2 l3 t103 bt104.1 bt110.1 true)) else (peaveylaw03_GapEither.j1 kj4 l0 l2 l3 t103 bt104.1 bt110.1 true)))))) = some r := by rw [if_neg (show ¬ (false = true) by decide)] at H; exact H
        clear H
        have H := H1
        clear H1
        replace H := Option.bind_eq_some_iff.mp H
        obtain ⟨t103, A120, H⟩ := H
        replace H : ((gap_Fewest.f l0).bind fun bt104 => ((gap_Run.f l0).bind fun bt106 => ((gap_Turning.f kj4 l0 t103).bind fun bt110 => (if bt104.2 = 0 then (if bt106.2 = 0 then (if bt110.2 = 0 then (if bt104.1 = (bt106.1.length : Int) then ((peaveyref03_CheckRun.f kj4 l0 bt106.1).bind fun t114 => (if t114 = 0 then ((gap_CheckRun.f kj4 l0 bt106.1).bind fun t115 => (peaveylaw03_GapEither.j1 kj4 l0 l2 l3 t103 bt104.1 bt110.1 (t115 != 0))) else (peaveylaw03_GapEither.j1 kj4 l0 l2 l3 t103 bt104.1 bt110.1 true))) else (peaveylaw03_GapEither.j1 kj4 l0 l2 l3 t103 bt104.1 bt110.1 true)) else (peaveylaw03_GapEither.j1 kj4 l0 l2 l3 t103 bt104.1 bt110.1 true)) else (peaveylaw03_GapEither.j1 kj4 l0 l2 l3 t103 bt104.1 bt110.1 true)) else (peaveylaw03_GapEither.j1 kj4 l0 l2 l3 t103 bt104.1 bt110.1 true))))) = some r := H
        have A12 := Aside0.mk A120
        clear A120
        replace H := Option.bind_eq_some_iff.mp H
        obtain ⟨⟨t104, t105⟩, A130, H⟩ := H
        replace H : ((gap_Run.f l0).bind fun bt106 => ((gap_Turning.f kj4 l0 t103).bind fun bt110 => (if t105 = 0 then (if bt106.2 = 0 then (if bt110.2 = 0 then (if t104 = (bt106.1.length : Int) then ((peaveyref03_CheckRun.f kj4 l0 bt106.1).bind fun t114 => (if t114 = 0 then ((gap_CheckRun.f kj4 l0 bt106.1).bind fun t115 => (peaveylaw03_GapEither.j1 kj4 l0 l2 l3 t103 t104 bt110.1 (t115 != 0))) else (peaveylaw03_GapEither.j1 kj4 l0 l2 l3 t103 t104 bt110.1 true))) else (peaveylaw03_GapEither.j1 kj4 l0 l2 l3 t103 t104 bt110.1 true)) else (peaveylaw03_GapEither.j1 kj4 l0 l2 l3 t103 t104 bt110.1 true)) else (peaveylaw03_GapEither.j1 kj4 l0 l2 l3 t103 t104 bt110.1 true)) else (peaveylaw03_GapEither.j1 kj4 l0 l2 l3 t103 t104 bt110.1 true)))) = some r := H
        have A13 := Aside0.mk A130
        clear A130
        replace H := Option.bind_eq_some_iff.mp H
        obtain ⟨⟨t106, t107⟩, A140, H⟩ := H
        replace H : ((gap_Turning.f kj4 l0 t103).bind fun bt110 => (if t105 = 0 then (if t107 = 0 then (if bt110.2 = 0 then (if t104 = (t106.length : Int) then ((peaveyref03_CheckRun.f kj4 l0 t106).bind fun t114 => (if t114 = 0 then ((gap_CheckRun.f kj4 l0 t106).bind fun t115 => (peaveylaw03_GapEither.j1 kj4 l0 l2 l3 t103 t104 bt110.1 (t115 != 0))) else (peaveylaw03_GapEither.j1 kj4 l0 l2 l3 t103 t104 bt110.1 true))) else (peaveylaw03_GapEither.j1 kj4 l0 l2 l3 t103 t104 bt110.1 true)) else (peaveylaw03_GapEither.j1 kj4 l0 l2 l3 t103 t104 bt110.1 true)) else (peaveylaw03_GapEither.j1 kj4 l0 l2 l3 t103 t104 bt110.1 true)) else (peaveylaw03_GapEither.j1 kj4 l0 l2 l3 t103 t104 bt110.1 true))) = some r := H
        have A14 := Aside0.mk A140
        clear A140
        replace H := Option.bind_eq_some_iff.mp H
        obtain ⟨⟨t110, t111⟩, A150, H⟩ := H
        replace H : (if t105 = 0 then (if t107 = 0 then (if t111 = 0 then (if t104 = (t106.length : Int) then ((peaveyref03_CheckRun.f kj4 l0 t106).bind fun t114 => (if t114 = 0 then ((gap_CheckRun.f kj4 l0 t106).bind fun t115 => (peaveylaw03_GapEither.j1 kj4 l0 l2 l3 t103 t104 t110 (t115 != 0))) else (peaveylaw03_GapEither.j1 kj4 l0 l2 l3 t103 t104 t110 true))) else (peaveylaw03_GapEither.j1 kj4 l0 l2 l3 t103 t104 t110 true)) else (peaveylaw03_GapEither.j1 kj4 l0 l2 l3 t103 t104 t110 true)) else (peaveylaw03_GapEither.j1 kj4 l0 l2 l3 t103 t104 t110 true)) else (peaveylaw03_GapEither.j1 kj4 l0 l2 l3 t103 t104 t110 true)) = some r := H
        have A15 := Aside0.mk A150
        clear A150
        have HC16 := Aside0.mk H
        clear H
        go_upto_region 7 with (first | ((with_reducible refine gate_callee (f := 40) rfl ?_); refine goesL_ (some 34) rfl rfl Try.func40 (by kernel_rfl) rfl #[.int .u8 a1] rfl (by (try simp only [List.map_toArray, List.map_cons, List.map_nil]); first | done | rfl | (simp only [List.length_drop, List.length_take]; rfl)) ?_; (with_reducible refine (peaveylaw03_pockets.calls a1 t103 _ A12.out).mono ?_); rintro e w' ⟨rfl, ⟨nd, rfl⟩⟩; refine ⟨_, rfl, ?_⟩) | ((with_reducible refine gate_callee (f := 25) rfl ?_); refine goesL_ (some 37) rfl rfl Try.func25 (by kernel_rfl) rfl #[.slice A0 l0.length c0] rfl (by (try simp only [List.map_toArray, List.map_cons, List.map_nil]); first | done | rfl | (simp only [List.length_drop, List.length_take]; rfl)) ?_; (with_reducible refine (gap_Fewest.calls _ _ l0 t104 t105 _ ?side1 ?side2 A13.out).mono ?_); (case side1 => repeat (first | exact (Kd.C_below HR0.out (by repeat (first | (with_reducible first | exact HB.out | apply below_alloc | apply pw_below_drewN | apply below_drew1) | exact HB.out))) | (with_reducible refine Kd.C_alloc ?_ _) | (with_reducible refine Kd.C_drewN ?_ _) | (with_reducible refine Kd.C_drew ?_))); (case side2 => exact HC0.out); rintro e w17 ⟨rfl, hb⟩; refine ⟨_, rfl, ?_⟩; have n0_ := Aside0.mk (below_step (by repeat (first | (with_reducible first | exact HB.out | apply below_alloc | apply pw_below_drewN | apply below_drew1) | exact HB.out)) hb); clear HB; have HB := n0_; clear n0_; (try clear hb); (try clear hb2); (try clear hk); (try clear hi)) | ((with_reducible refine gate_callee (f := 43) rfl ?_); refine goesL_ (some 42) rfl rfl Try.func43 (by kernel_rfl) rfl #[.slice A0 l0.length c0] rfl (by (try simp only [List.map_toArray, List.map_cons, List.map_nil]); first | done | rfl | (simp only [List.length_drop, List.length_take]; rfl)) ?_; (with_reducible refine (gap_Run.calls _ _ l0 t106 t107 _ ?side1 ?side2 A14.out).mono ?_); (case side1 => repeat (first | exact (Kd.C_below HR0.out HB.out) | (with_reducible refine Kd.C_alloc ?_ _) | (with_reducible refine Kd.C_drewN ?_ _) | (with_reducible refine Kd.C_drew ?_))); (case side2 => exact HC0.out); rintro e w18 ⟨v108, rfl, ho0, hb⟩; refine ⟨_, rfl, ?_⟩; have n0_ := Aside0.mk (Kd.R_lower ho0 (below_size (by repeat (first | (with_reducible first | exact HB.out | apply below_alloc | apply pw_below_drewN | apply below_drew1) | exact HB.out)))); have n1_ := Aside0.mk (below_step (by repeat (first | (with_reducible first | exact HB.out | apply below_alloc | apply pw_below_drewN | apply below_drew1) | exact HB.out)) hb); clear HB; have HO109 := n0_; have HB := n1_; clear n0_ n1_; (try clear hb); (try clear hb2); (try clear hk); (try clear hi); (try clear ho0)) | ((with_reducible refine gate_callee (f := 29) rfl ?_); refine goesL_ (some 48) rfl rfl Try.func29 (by kernel_rfl) rfl #[.slice A0 l0.length c0, .int .i64 t103] rfl (by (try simp only [List.map_toArray, List.map_cons, List.map_nil]); first | done | rfl | (simp only [List.length_drop, List.length_take]; rfl)) ?_; (with_reducible refine (gap_Turning.calls kj4 _ _ l0 t103 t110 t111 _ ?side1 ?side2 A15.out).mono ?_); (case side1 => repeat (first | exact (Kd.C_below HR0.out HB.out) | (with_reducible refine Kd.C_alloc ?_ _) | (with_reducible refine Kd.C_drewN ?_ _) | (with_reducible refine Kd.C_drew ?_))); (case side2 => exact HC0.out); rintro e w19 ⟨v112, rfl, ho0, hb⟩; refine ⟨_, rfl, ?_⟩; have n0_ := Aside0.mk (Kd.R_elder' (by (with_reducible repeat (first | apply Kd.R_alloc | apply Kd.R_drewN | apply Kd.R_drew)); exact HO109.out) (Kd.R_base ho0) hb); have n1_ := Aside0.mk (Kd.R_lower (Kd.R_new' ho0 (Kd.R_lt (by (with_reducible repeat (first | apply Kd.R_alloc | apply Kd.R_drewN | apply Kd.R_drew)); exact HO109.out))) (below_size (by repeat (first | (with_reducible first | exact HB.out | apply below_alloc | apply pw_below_drewN | apply below_drew1) | exact HB.out)))); have n2_ := Aside0.mk (below_step (by repeat (first | (with_reducible first | exact HB.out | apply below_alloc | apply pw_below_drewN | apply below_drew1) | exact HB.out)) hb); clear HO109; clear HB; have HO109 := n0_; have HO113 := n1_; have HB := n2_; clear n0_ n1_ n2_; (try clear hb); (try clear hb2); (try clear hk); (try clear hi); (try clear ho0)))
        (try simp only [Act.put, List.setIfInBounds_toArray, List.set_cons_zero, List.set_cons_succ])
        go_cut [78] (fun v78 wc => ∃ (kq : Nat) (x78_15 : Bool), v78 = .bool x78_15 ∧ Aside0 (peaveylaw03_GapEither.j1 kq l0 l2 l3 t103 t104 t110 x78_15 = some r) ∧ Aside0 (kq ≤ kj4) ∧ Aside0 (Kd.R (Kd.int .i64) 3 wc w.heap.size (fun _ => True) v112 t110) ∧ Aside0 (Below w.heap.size w wc))
        case first =>
          have H := HC16.out
          clear HC16
          by_cases c20 : t105 = 0
          · rw [if_pos c20] at H
            have c20b0 : (t105 == 0) = true := beq_iff_eq.mpr c20
            have c20b1 : (t105 != 0) = false := bne_eq_false_iff_eq.mpr c20
            clear c20
            (first | rw [c20b0] | (simp only [i64_w, i32_w]; rw [c20b0]) | skip)
            by_cases c21 : t107 = 0
            · rw [if_pos c21] at H
              have c21b0 : (t107 == 0) = true := beq_iff_eq.mpr c21
              have c21b1 : (t107 != 0) = false := bne_eq_false_iff_eq.mpr c21
              clear c21
              by_cases c22 : t111 = 0
              · rw [if_pos c22] at H
                have c22b0 : (t111 == 0) = true := beq_iff_eq.mpr c22
                have c22b1 : (t111 != 0) = false := bne_eq_false_iff_eq.mpr c22
                clear c22
                by_cases c23 : t104 = (t106.length : Int)
                · rw [if_pos c23] at H
                  have c23b0 : (t104 == (t106.length : Int)) = true := beq_iff_eq.mpr c23
                  have c23b1 : (t104 != (t106.length : Int)) = false := bne_eq_false_iff_eq.mpr c23
                  clear c23
                  replace H := Option.bind_eq_some_iff.mp H
                  obtain ⟨t114, A240, H⟩ := H
                  replace H : (if t114 = 0 then ((gap_CheckRun.f kj4 l0 t106).bind fun t115 => (peaveylaw03_GapEither.j1 kj4 l0 l2 l3 t103 t104 t110 (t115 != 0))) else (peaveylaw03_GapEither.j1 kj4 l0 l2 l3 t103 t104 t110 true)) = some r := H
                  have A24 := Aside0.mk A240
                  clear A240
                  by_cases c25 : t114 = 0
                  · rw [if_pos c25] at H
                    have c25b0 : (t114 == 0) = true := beq_iff_eq.mpr c25
                    have c25b1 : (t114 != 0) = false := bne_eq_false_iff_eq.mpr c25
                    clear c25
                    replace H := Option.bind_eq_some_iff.mp H
                    obtain ⟨t115, A260, H⟩ := H
                    replace H : (peaveylaw03_GapEither.j1 kj4 l0 l2 l3 t103 t104 t110 (t115 != 0)) = some r := H
                    have A26 := Aside0.mk A260
                    clear A260
                    have H' := Aside0.mk H
                    clear H
                    obtain ⟨Ao27, co27, eo27⟩ := Kd.R_slice HO109.out
                    subst eo27
                    go_wp2_with (first | (go_at_call 46; (with_reducible refine (peaveyref03_CheckRun.calls kj4 _ _ l0 _ _ t106 t114 _ ?side1 ?side2 ?side3 ?side4 A24.out).mono ?_); (case side1 => repeat (first | exact (Kd.C_below HR0.out HB.out) | (with_reducible refine Kd.C_alloc ?_ _) | (with_reducible refine Kd.C_drewN ?_ _) | (with_reducible refine Kd.C_drew ?_))); (case side2 => exact HC0.out); (case side3 => repeat (first | exact (Kd.R_reads' HO109.out).2.2 | (with_reducible refine Kd.C_alloc ?_ _) | (with_reducible refine Kd.C_drewN ?_ _) | (with_reducible refine Kd.C_drew ?_))); (case side4 => exact (Kd.R_reads' HO109.out).2.1); rintro e w' ⟨rfl, ⟨nd, rfl⟩⟩) | (go_at_call 45; (with_reducible refine (gap_CheckRun.calls kj4 _ _ l0 _ _ t106 t115 _ ?side1 ?side2 ?side3 ?side4 A26.out).mono ?_); (case side1 => repeat (first | exact (Kd.C_below HR0.out (by repeat (first | (with_reducible first | exact HB.out | apply below_alloc | apply pw_below_drewN | apply below_drew1) | exact HB.out))) | (with_reducible refine Kd.C_alloc ?_ _) | (with_reducible refine Kd.C_drewN ?_ _) | (with_reducible refine Kd.C_drew ?_))); (case side2 => exact HC0.out); (case side3 => repeat (first | exact (Kd.R_reads' HO109.out).2.2 | (with_reducible refine Kd.C_alloc ?_ _) | (with_reducible refine Kd.C_drewN ?_ _) | (with_reducible refine Kd.C_drew ?_))); (case side4 => exact (Kd.R_reads' HO109.out).2.1); rintro e w28 ⟨rfl, hb⟩; have n0_ := Aside0.mk (Kd.R_below (by (with_reducible repeat (first | apply Kd.R_alloc | apply Kd.R_drewN | apply Kd.R_drew)); exact HO109.out) hb); have n1_ := Aside0.mk (Kd.R_below (by (with_reducible repeat (first | apply Kd.R_alloc | apply Kd.R_drewN | apply Kd.R_drew)); exact HO113.out) hb); have n2_ := Aside0.mk (below_step (by repeat (first | (with_reducible first | exact HB.out | apply below_alloc | apply pw_below_drewN | apply below_drew1) | exact HB.out)) hb); clear HO109; clear HO113; clear HB; have HO109 := n0_; have HO113 := n1_; have HB := n2_; clear n0_ n1_ n2_; (try clear hb); (try clear hb2); (try clear hk); (try clear hi)))
                    go_meet
                    case rel => exact ⟨_, ((t115 != 0)), (by first | rfl | (simp; done) | (simp [*]; done)), H', ⟨by have := HJ4.out; first | omega | exact Nat.le_refl _⟩, ⟨by (with_reducible repeat (first | apply Kd.R_alloc | apply Kd.R_drewN | apply Kd.R_drew)); exact Kd.R_mono HO113.out (fun _ hk => trivial)⟩, ⟨by repeat (first | (with_reducible first | exact HB.out | apply below_alloc | apply pw_below_drewN | apply below_drew1) | exact HB.out)⟩⟩
                  · rw [if_neg c25] at H
                    have c25b0 : (t114 == 0) = false := beq_eq_false_iff_ne.mpr c25
                    have c25b1 : (t114 != 0) = true := bne_iff_ne.mpr c25
                    have H' := Aside0.mk H
                    clear H
                    obtain ⟨Ao29, co29, eo29⟩ := Kd.R_slice HO109.out
                    subst eo29
                    go_wp2_with (first | (go_at_call 46; (with_reducible refine (peaveyref03_CheckRun.calls kj4 _ _ l0 _ _ t106 t114 _ ?side1 ?side2 ?side3 ?side4 A24.out).mono ?_); (case side1 => repeat (first | exact (Kd.C_below HR0.out HB.out) | (with_reducible refine Kd.C_alloc ?_ _) | (with_reducible refine Kd.C_drewN ?_ _) | (with_reducible refine Kd.C_drew ?_))); (case side2 => exact HC0.out); (case side3 => repeat (first | exact (Kd.R_reads' HO109.out).2.2 | (with_reducible refine Kd.C_alloc ?_ _) | (with_reducible refine Kd.C_drewN ?_ _) | (with_reducible refine Kd.C_drew ?_))); (case side4 => exact (Kd.R_reads' HO109.out).2.1); rintro e w' ⟨rfl, ⟨nd, rfl⟩⟩))
                    go_meet
                    case rel => exact ⟨_, (true), (by first | rfl | (simp; done) | (simp [*]; done)), H', ⟨by have := HJ4.out; first | omega | exact Nat.le_refl _⟩, ⟨by (with_reducible repeat (first | apply Kd.R_alloc | apply Kd.R_drewN | apply Kd.R_drew)); exact Kd.R_mono HO113.out (fun _ hk => trivial)⟩, ⟨by repeat (first | (with_reducible first | exact HB.out | apply below_alloc | apply pw_below_drewN | apply below_drew1) | exact HB.out)⟩⟩
                · rw [if_neg c23] at H
                  have c23b0 : (t104 == (t106.length : Int)) = false := beq_eq_false_iff_ne.mpr c23
                  have c23b1 : (t104 != (t106.length : Int)) = true := bne_iff_ne.mpr c23
                  have H' := Aside0.mk H
                  clear H
                  obtain ⟨Ao30, co30, eo30⟩ := Kd.R_slice HO109.out
                  subst eo30
                  go_wp2
                  go_meet
                  case rel => exact ⟨_, (true), (by first | rfl | (simp; done) | (simp [*]; done)), H', ⟨by have := HJ4.out; first | omega | exact Nat.le_refl _⟩, ⟨by (with_reducible repeat (first | apply Kd.R_alloc | apply Kd.R_drewN | apply Kd.R_drew)); exact Kd.R_mono HO113.out (fun _ hk => trivial)⟩, ⟨by repeat (first | (with_reducible first | exact HB.out | apply below_alloc | apply pw_below_drewN | apply below_drew1) | exact HB.out)⟩⟩
              · rw [if_neg c22] at H
                have c22b0 : (t111 == 0) = false := beq_eq_false_iff_ne.mpr c22
                have c22b1 : (t111 != 0) = true := bne_iff_ne.mpr c22
                have H' := Aside0.mk H
                clear H
                go_wp2
                go_meet
                case rel => exact ⟨_, (true), (by first | rfl | (simp; done) | (simp [*]; done)), H', ⟨by have := HJ4.out; first | omega | exact Nat.le_refl _⟩, ⟨by (with_reducible repeat (first | apply Kd.R_alloc | apply Kd.R_drewN | apply Kd.R_drew)); exact Kd.R_mono HO113.out (fun _ hk => trivial)⟩, ⟨by repeat (first | (with_reducible first | exact HB.out | apply below_alloc | apply pw_below_drewN | apply below_drew1) | exact HB.out)⟩⟩
            · rw [if_neg c21] at H
              have c21b0 : (t107 == 0) = false := beq_eq_false_iff_ne.mpr c21
              have c21b1 : (t107 != 0) = true := bne_iff_ne.mpr c21
              have H' := Aside0.mk H
              clear H
              go_wp2
              go_meet
              case rel => exact ⟨_, (true), (by first | rfl | (simp; done) | (simp [*]; done)), H', ⟨by have := HJ4.out; first | omega | exact Nat.le_refl _⟩, ⟨by (with_reducible repeat (first | apply Kd.R_alloc | apply Kd.R_drewN | apply Kd.R_drew)); exact Kd.R_mono HO113.out (fun _ hk => trivial)⟩, ⟨by repeat (first | (with_reducible first | exact HB.out | apply below_alloc | apply pw_below_drewN | apply below_drew1) | exact HB.out)⟩⟩
          · rw [if_neg c20] at H
            have c20b0 : (t105 == 0) = false := beq_eq_false_iff_ne.mpr c20
            have c20b1 : (t105 != 0) = true := bne_iff_ne.mpr c20
            (first | rw [c20b0] | (simp only [i64_w, i32_w]; rw [c20b0]) | skip)
            have H' := Aside0.mk H
            clear H
            go_wp2
            go_meet
            case rel => exact ⟨_, (true), (by first | rfl | (simp; done) | (simp [*]; done)), H', ⟨by have := HJ4.out; first | omega | exact Nat.le_refl _⟩, ⟨by (with_reducible repeat (first | apply Kd.R_alloc | apply Kd.R_drewN | apply Kd.R_drew)); exact Kd.R_mono HO113.out (fun _ hk => trivial)⟩, ⟨by repeat (first | (with_reducible first | exact HB.out | apply below_alloc | apply pw_below_drewN | apply below_drew1) | exact HB.out)⟩⟩
        case rest =>
          clear HC16
          try clear c1
          try clear c2
          try clear p2
          try clear c3
          try clear c4
          try clear c7
          try clear c8
          try clear c8b0
          try clear c8b1
          try clear c9
          try clear c14
          try clear c18
          try clear c20
          try clear c20b0
          try clear c20b1
          try clear c21
          try clear c21b0
          try clear c21b1
          try clear c22
          try clear c22b0
          try clear c22b1
          try clear c23
          try clear c23b0
          try clear c23b1
          try clear c25
          try clear c25b0
          try clear c25b1
          try clear c29
          try clear p2
          obtain ⟨kq, x78_15, rfl, HA, HJ15, HO_14, HB⟩ := hcut
          cases kq with
          | zero => exact absurd HA.out (by simp [peaveylaw03_GapEither.j1])
          | succ kj15 =>
            have H := HA.out
            clear HA
            simp only [peaveylaw03_GapEither.j1] at H
            by_cases c31 : x78_15 = true
            · subst c31
              have H1 : (some false) = some r := by rw [if_pos rfl] at H; exact H
              clear H
              have H := H1
              clear H1
              obtain rfl := Option.some.inj H
              go_wp2
              go_ret
              exact ⟨by first | rfl | (simp [errW_none, errW_some] <;> rfl) | (simp [*, errW_none, errW_some] <;> rfl), by repeat (first | (with_reducible first | exact HB.out | apply below_alloc | apply pw_below_drewN | apply below_drew1) | exact HB.out)⟩
            · replace c31 := Bool.eq_false_iff.mpr c31
              subst c31
              have H1 : ((gap_CheckTurning.f l0 t103 t110).bind fun bt116 => ((peaveyref03_CheckTurning.f kj15 l0 t103 t110).bind fun bt118 => (if bt116.2 = 0 then (if bt118.2 = 0 then (if bt116.1 = bt118.1 then (peaveylaw03_GapEither.j2 kj15 l0 l2 l3 t103 t104 ((bt116.1 == (l0.length : Int)) != (decide (t104 ≤ t103)))) else (peaveylaw03_GapEither.j2 kj15 l0 l2 l3 t103 t104 true)) else (peaveylaw03_GapEither.j2 kj15 l0 l2 l3 t103 t104 true)) else (peaveylaw03_GapEither.j2 kj15 l0 l2 l3 t103 t104 true)))) = some r := by rw [if_neg (show ¬ (false = true) by decide)] at H; exact H
              clear H
              have H := H1
              clear H1
              replace H := Option.bind_eq_some_iff.mp H
              obtain ⟨⟨t116, t117⟩, A320, H⟩ := H
              replace H : ((peaveyref03_CheckTurning.f kj15 l0 t103 t110).bind fun bt118 => (if t117 = 0 then (if bt118.2 = 0 then (if t116 = bt118.1 then (peaveylaw03_GapEither.j2 kj15 l0 l2 l3 t103 t104 ((t116 == (l0.length : Int)) != (decide (t104 ≤ t103)))) else (peaveylaw03_GapEither.j2 kj15 l0 l2 l3 t103 t104 true)) else (peaveylaw03_GapEither.j2 kj15 l0 l2 l3 t103 t104 true)) else (peaveylaw03_GapEither.j2 kj15 l0 l2 l3 t103 t104 true))) = some r := H
              have A32 := Aside0.mk A320
              clear A320
              replace H := Option.bind_eq_some_iff.mp H
              obtain ⟨⟨t118, t119⟩, A330, H⟩ := H
              replace H : (if t117 = 0 then (if t119 = 0 then (if t116 = t118 then (peaveylaw03_GapEither.j2 kj15 l0 l2 l3 t103 t104 ((t116 == (l0.length : Int)) != (decide (t104 ≤ t103)))) else (peaveylaw03_GapEither.j2 kj15 l0 l2 l3 t103 t104 true)) else (peaveylaw03_GapEither.j2 kj15 l0 l2 l3 t103 t104 true)) else (peaveylaw03_GapEither.j2 kj15 l0 l2 l3 t103 t104 true)) = some r := H
              have A33 := Aside0.mk A330
              clear A330
              have HC34 := Aside0.mk H
              clear H
              obtain ⟨Ao35, co35, eo35⟩ := Kd.R_slice HO_14.out
              subst eo35
              go_upto_region 11 with (first | ((with_reducible refine gate_callee (f := 19) rfl ?_); refine goesL_ (some 83) rfl rfl Try.func19 (by kernel_rfl) rfl #[.slice A0 l0.length c0, .int .i64 t103, .slice Ao35 t110.length co35] rfl (by (try simp only [List.map_toArray, List.map_cons, List.map_nil]); first | done | rfl | (simp only [List.length_drop, List.length_take]; rfl)) ?_; (with_reducible refine (gap_CheckTurning.calls _ _ l0 t103 _ _ t110 t116 t117 _ ?side1 ?side2 ?side3 ?side4 A32.out).mono ?_); (case side1 => repeat (first | exact (Kd.C_below HR0.out HB.out) | (with_reducible refine Kd.C_alloc ?_ _) | (with_reducible refine Kd.C_drewN ?_ _) | (with_reducible refine Kd.C_drew ?_))); (case side2 => exact HC0.out); (case side3 => repeat (first | exact (Kd.R_reads' HO_14.out).2.2 | (with_reducible refine Kd.C_alloc ?_ _) | (with_reducible refine Kd.C_drewN ?_ _) | (with_reducible refine Kd.C_drew ?_))); (case side4 => exact (Kd.R_reads' HO_14.out).2.1); rintro e w36 ⟨rfl, hb⟩; refine ⟨_, rfl, ?_⟩; have n0_ := Aside0.mk (Kd.R_below (by (with_reducible repeat (first | apply Kd.R_alloc | apply Kd.R_drewN | apply Kd.R_drew)); exact HO_14.out) hb); have n1_ := Aside0.mk (below_step (by repeat (first | (with_reducible first | exact HB.out | apply below_alloc | apply pw_below_drewN | apply below_drew1) | exact HB.out)) hb); clear HO_14; clear HB; have HO_14 := n0_; have HB := n1_; clear n0_ n1_; (try clear hb); (try clear hb2); (try clear hk); (try clear hi)) | ((with_reducible refine gate_callee (f := 20) rfl ?_); refine goesL_ (some 90) rfl rfl Try.func20 (by kernel_rfl) rfl #[.slice A0 l0.length c0, .int .i64 t103, .slice Ao35 t110.length co35] rfl (by (try simp only [List.map_toArray, List.map_cons, List.map_nil]); first | done | rfl | (simp only [List.length_drop, List.length_take]; rfl)) ?_; (with_reducible refine (peaveyref03_CheckTurning.calls kj15 _ _ l0 t103 _ _ t110 t118 t119 _ ?side1 ?side2 ?side3 ?side4 A33.out).mono ?_); (case side1 => repeat (first | exact (Kd.C_below HR0.out HB.out) | (with_reducible refine Kd.C_alloc ?_ _) | (with_reducible refine Kd.C_drewN ?_ _) | (with_reducible refine Kd.C_drew ?_))); (case side2 => exact HC0.out); (case side3 => repeat (first | exact (Kd.R_reads' HO_14.out).2.2 | (with_reducible refine Kd.C_alloc ?_ _) | (with_reducible refine Kd.C_drewN ?_ _) | (with_reducible refine Kd.C_drew ?_))); (case side4 => exact (Kd.R_reads' HO_14.out).2.1); rintro e w' ⟨rfl, ⟨nd, rfl⟩⟩; refine ⟨_, rfl, ?_⟩))
              (try simp only [Act.put, List.setIfInBounds_toArray, List.set_cons_zero, List.set_cons_succ])
              go_cut [113] (fun v113 wc => ∃ (kq : Nat) (x113_33 : Bool), v113 = .bool x113_33 ∧ Aside0 (peaveylaw03_GapEither.j2 kq l0 l2 l3 t103 t104 x113_33 = some r) ∧ Aside0 (kq ≤ kj15) ∧ Aside0 (Below w.heap.size w wc))
              case first =>
                have H := HC34.out
                clear HC34
                by_cases c37 : t117 = 0
                · rw [if_pos c37] at H
                  have c37b0 : (t117 == 0) = true := beq_iff_eq.mpr c37
                  have c37b1 : (t117 != 0) = false := bne_eq_false_iff_eq.mpr c37
                  clear c37
                  (first | rw [c37b0] | (simp only [i64_w, i32_w]; rw [c37b0]) | skip)
                  by_cases c38 : t119 = 0
                  · rw [if_pos c38] at H
                    have c38b0 : (t119 == 0) = true := beq_iff_eq.mpr c38
                    have c38b1 : (t119 != 0) = false := bne_eq_false_iff_eq.mpr c38
                    clear c38
                    by_cases c39 : t116 = t118
                    · rw [if_pos c39] at H
                      have c39b0 : (t116 == t118) = true := beq_iff_eq.mpr c39
                      have c39b1 : (t116 != t118) = false := bne_eq_false_iff_eq.mpr c39
                      clear c39
                      have H' := Aside0.mk H
                      clear H
                      go_wp2
                      go_meet
                      case rel => exact ⟨_, (((t116 == (l0.length : Int)) != (decide (t104 ≤ t103)))), (by first | rfl | (simp; done) | (simp [*]; done)), H', ⟨by have := HJ4.out; have := HJ15.out; first | omega | exact Nat.le_refl _⟩, ⟨by repeat (first | (with_reducible first | exact HB.out | apply below_alloc | apply pw_below_drewN | apply below_drew1) | exact HB.out)⟩⟩
                    · rw [if_neg c39] at H
                      have c39b0 : (t116 == t118) = false := beq_eq_false_iff_ne.mpr c39
                      have c39b1 : (t116 != t118) = true := bne_iff_ne.mpr c39
                      have H' := Aside0.mk H
                      clear H
                      go_wp2
                      go_meet
                      case rel => exact ⟨_, (true), (by first | rfl | (simp; done) | (simp [*]; done)), H', ⟨by have := HJ4.out; have := HJ15.out; first | omega | exact Nat.le_refl _⟩, ⟨by repeat (first | (with_reducible first | exact HB.out | apply below_alloc | apply pw_below_drewN | apply below_drew1) | exact HB.out)⟩⟩
                  · rw [if_neg c38] at H
                    have c38b0 : (t119 == 0) = false := beq_eq_false_iff_ne.mpr c38
                    have c38b1 : (t119 != 0) = true := bne_iff_ne.mpr c38
                    have H' := Aside0.mk H
                    clear H
                    go_wp2
                    go_meet
                    case rel => exact ⟨_, (true), (by first | rfl | (simp; done) | (simp [*]; done)), H', ⟨by have := HJ4.out; have := HJ15.out; first | omega | exact Nat.le_refl _⟩, ⟨by repeat (first | (with_reducible first | exact HB.out | apply below_alloc | apply pw_below_drewN | apply below_drew1) | exact HB.out)⟩⟩
                · rw [if_neg c37] at H
                  have c37b0 : (t117 == 0) = false := beq_eq_false_iff_ne.mpr c37
                  have c37b1 : (t117 != 0) = true := bne_iff_ne.mpr c37
                  (first | rw [c37b0] | (simp only [i64_w, i32_w]; rw [c37b0]) | skip)
                  have H' := Aside0.mk H
                  clear H
                  go_wp2
                  go_meet
                  case rel => exact ⟨_, (true), (by first | rfl | (simp; done) | (simp [*]; done)), H', ⟨by have := HJ4.out; have := HJ15.out; first | omega | exact Nat.le_refl _⟩, ⟨by repeat (first | (with_reducible first | exact HB.out | apply below_alloc | apply pw_below_drewN | apply below_drew1) | exact HB.out)⟩⟩
              case rest =>
                clear HC34
                try clear c1
                try clear c2
                try clear p2
                try clear c3
                try clear c4
                try clear c7
                try clear c8
                try clear c8b0
                try clear c8b1
                try clear c9
                try clear c14
                try clear c18
                try clear c19
                try clear c20
                try clear c20b0
                try clear c20b1
                try clear c21
                try clear c21b0
                try clear c21b1
                try clear c22
                try clear c22b0
                try clear c22b1
                try clear c23
                try clear c23b0
                try clear c23b1
                try clear c25
                try clear c25b0
                try clear c25b1
                try clear c29
                try clear c31
                try clear c37
                try clear c37b0
                try clear c37b1
                try clear c38
                try clear c38b0
                try clear c38b1
                try clear c39
                try clear c39b0
                try clear c39b1
                try clear p2
                obtain ⟨kq, x113_33, rfl, HA, HJ33, HB⟩ := hcut
                cases kq with
                | zero => exact absurd HA.out (by simp [peaveylaw03_GapEither.j2])
                | succ kj33 =>
                  have H := HA.out
                  clear HA
                  simp only [peaveylaw03_GapEither.j2] at H
                  by_cases c40 : x113_33 = true
                  · subst c40
                    have H1 : (some false) = some r := by rw [if_pos rfl] at H; exact H
                    clear H
                    have H := H1
                    clear H1
                    obtain rfl := Option.some.inj H
                    go_wp2
                    go_ret
                    exact ⟨by first | rfl | (simp [errW_none, errW_some] <;> rfl) | (simp [*, errW_none, errW_some] <;> rfl), by repeat (first | (with_reducible first | exact HB.out | apply below_alloc | apply pw_below_drewN | apply below_drew1) | exact HB.out)⟩
                  · replace c40 := Bool.eq_false_iff.mpr c40
                    subst c40
                    have H1 : ((gap_CheckRun.f kj33 l0 l2).bind fun t120 => (if t120 = 0 then (peaveylaw03_GapEither.j3 kj33 l0 l3 t103 t104 (decide ((l2.length : Int) > t104))) else (peaveylaw03_GapEither.j3 kj33 l0 l3 t103 t104 false))) = some r := by rw [if_neg (show ¬ (false = true) by decide)] at H; exact H
                    clear H
                    have H := H1
                    clear H1
                    have HC41 := Aside0.mk H
                    clear H
                    go_upto_region 13 with (fail)
                    go_cut [123] (fun v123 wc => ∃ (kq : Nat) (x123_40 : Bool), v123 = .bool x123_40 ∧ Aside0 (peaveylaw03_GapEither.j3 kq l0 l3 t103 t104 x123_40 = some r) ∧ Aside0 (kq ≤ kj33) ∧ Aside0 (Below w.heap.size w wc))
                    case first =>
                      have H := HC41.out
                      clear HC41
                      replace H := Option.bind_eq_some_iff.mp H
                      obtain ⟨t120, A420, H⟩ := H
                      replace H : (if t120 = 0 then (peaveylaw03_GapEither.j3 kj33 l0 l3 t103 t104 (decide ((l2.length : Int) > t104))) else (peaveylaw03_GapEither.j3 kj33 l0 l3 t103 t104 false)) = some r := H
                      have A42 := Aside0.mk A420
                      clear A420
                      by_cases c43 : t120 = 0
                      · rw [if_pos c43] at H
                        have c43b0 : (t120 == 0) = true := beq_iff_eq.mpr c43
                        have c43b1 : (t120 != 0) = false := bne_eq_false_iff_eq.mpr c43
                        clear c43
                        (first | rw [c43b0] | (simp only [i64_w, i32_w]; rw [c43b0]) | skip)
                        have H' := Aside0.mk H
                        clear H
                        go_wp2_with (first | ((with_reducible refine gate_callee (f := 45) rfl ?_); refine goesL_ (some 116) rfl rfl Try.func45 (by kernel_rfl) rfl #[.slice A0 l0.length c0, .slice A2 l2.length c2] rfl (by (try simp only [List.map_toArray, List.map_cons, List.map_nil]); first | done | rfl | (simp only [List.length_drop, List.length_take]; rfl)) ?_; (with_reducible refine (gap_CheckRun.calls kj33 _ _ l0 _ _ l2 t120 _ ?side1 ?side2 ?side3 ?side4 A42.out).mono ?_); (case side1 => repeat (first | exact (Kd.C_below HR0.out HB.out) | (with_reducible refine Kd.C_alloc ?_ _) | (with_reducible refine Kd.C_drewN ?_ _) | (with_reducible refine Kd.C_drew ?_))); (case side2 => exact HC0.out); (case side3 => repeat (first | exact (Kd.C_below HR2.out HB.out) | (with_reducible refine Kd.C_alloc ?_ _) | (with_reducible refine Kd.C_drewN ?_ _) | (with_reducible refine Kd.C_drew ?_))); (case side4 => exact HC2.out); rintro e w44 ⟨rfl, hb⟩; refine ⟨_, rfl, ?_⟩; have n0_ := Aside0.mk (below_step (by repeat (first | (with_reducible first | exact HB.out | apply below_alloc | apply pw_below_drewN | apply below_drew1) | exact HB.out)) hb); clear HB; have HB := n0_; clear n0_; (try clear hb); (try clear hb2); (try clear hk); (try clear hi)))
                        go_meet
                        case rel => exact ⟨_, (decide ((l2.length : Int) > t104)), (by first | rfl | (simp; done) | (simp [*]; done)), H', ⟨by have := HJ4.out; have := HJ15.out; have := HJ33.out; first | omega | exact Nat.le_refl _⟩, ⟨by repeat (first | (with_reducible first | exact HB.out | apply below_alloc | apply pw_below_drewN | apply below_drew1) | exact HB.out)⟩⟩
                      · rw [if_neg c43] at H
                        have c43b0 : (t120 == 0) = false := beq_eq_false_iff_ne.mpr c43
                        have c43b1 : (t120 != 0) = true := bne_iff_ne.mpr c43
                        (first | rw [c43b0] | (simp only [i64_w, i32_w]; rw [c43b0]) | skip)
                        have H' := Aside0.mk H
                        clear H
                        go_wp2_with (first | ((with_reducible refine gate_callee (f := 45) rfl ?_); refine goesL_ (some 116) rfl rfl Try.func45 (by kernel_rfl) rfl #[.slice A0 l0.length c0, .slice A2 l2.length c2] rfl (by (try simp only [List.map_toArray, List.map_cons, List.map_nil]); first | done | rfl | (simp only [List.length_drop, List.length_take]; rfl)) ?_; (with_reducible refine (gap_CheckRun.calls kj33 _ _ l0 _ _ l2 t120 _ ?side1 ?side2 ?side3 ?side4 A42.out).mono ?_); (case side1 => repeat (first | exact (Kd.C_below HR0.out HB.out) | (with_reducible refine Kd.C_alloc ?_ _) | (with_reducible refine Kd.C_drewN ?_ _) | (with_reducible refine Kd.C_drew ?_))); (case side2 => exact HC0.out); (case side3 => repeat (first | exact (Kd.C_below HR2.out HB.out) | (with_reducible refine Kd.C_alloc ?_ _) | (with_reducible refine Kd.C_drewN ?_ _) | (with_reducible refine Kd.C_drew ?_))); (case side4 => exact HC2.out); rintro e w45 ⟨rfl, hb⟩; refine ⟨_, rfl, ?_⟩; have n0_ := Aside0.mk (below_step (by repeat (first | (with_reducible first | exact HB.out | apply below_alloc | apply pw_below_drewN | apply below_drew1) | exact HB.out)) hb); clear HB; have HB := n0_; clear n0_; (try clear hb); (try clear hb2); (try clear hk); (try clear hi)))
                        go_meet
                        case rel => exact ⟨_, (false), (by first | rfl | (simp; done) | (simp [*]; done)), H', ⟨by have := HJ4.out; have := HJ15.out; have := HJ33.out; first | omega | exact Nat.le_refl _⟩, ⟨by repeat (first | (with_reducible first | exact HB.out | apply below_alloc | apply pw_below_drewN | apply below_drew1) | exact HB.out)⟩⟩
                    case rest =>
                      clear HC41
                      try clear c1
                      try clear c2
                      try clear p2
                      try clear c3
                      try clear c4
                      try clear c7
                      try clear c8
                      try clear c8b0
                      try clear c8b1
                      try clear c9
                      try clear c14
                      try clear c18
                      try clear c19
                      try clear c20
                      try clear c20b0
                      try clear c20b1
                      try clear c21
                      try clear c21b0
                      try clear c21b1
                      try clear c22
                      try clear c22b0
                      try clear c22b1
                      try clear c23
                      try clear c23b0
                      try clear c23b1
                      try clear c25
                      try clear c25b0
                      try clear c25b1
                      try clear c29
                      try clear c31
                      try clear c37
                      try clear c37b0
                      try clear c37b1
                      try clear c38
                      try clear c38b0
                      try clear c38b1
                      try clear c39
                      try clear c39b0
                      try clear c39b1
                      try clear c40
                      try clear c43
                      try clear c43b0
                      try clear c43b1
                      try clear c45
                      try clear p2
                      obtain ⟨kq, x123_40, rfl, HA, HJ40, HB⟩ := hcut
                      cases kq with
                      | zero => exact absurd HA.out (by simp [peaveylaw03_GapEither.j3])
                      | succ kj40 =>
                        have H := HA.out
                        clear HA
                        simp only [peaveylaw03_GapEither.j3] at H
                        by_cases c46 : x123_40 = true
                        · subst c46
                          have H1 : (some false) = some r := by rw [if_pos rfl] at H; exact H
                          clear H
                          have H := H1
                          clear H1
                          obtain rfl := Option.some.inj H
                          go_wp2
                          go_ret
                          exact ⟨by first | rfl | (simp [errW_none, errW_some] <;> rfl) | (simp [*, errW_none, errW_some] <;> rfl), by repeat (first | (with_reducible first | exact HB.out | apply below_alloc | apply pw_below_drewN | apply below_drew1) | exact HB.out)⟩
                        · replace c46 := Bool.eq_false_iff.mpr c46
                          subst c46
                          have H1 : ((gap_CheckTurning.f l0 t103 l3).bind fun bt121 => (if bt121.2 = 0 then (if bt121.1 < (l0.length : Int) then ((peaveylaw03_Works.f kj40).bind fun t123 => (some t123)) else (if t104 ≤ t103 then ((peaveylaw03_Works.f kj40).bind fun t124 => (some t124)) else (some false))) else ((peaveylaw03_Works.f kj40).bind fun t125 => (some t125)))) = some r := by rw [if_neg (show ¬ (false = true) by decide)] at H; exact H
                          clear H
                          have H := H1
                          clear H1
                          replace H := Option.bind_eq_some_iff.mp H
                          obtain ⟨⟨t121, t122⟩, A470, H⟩ := H
                          replace H : (if t122 = 0 then (if t121 < (l0.length : Int) then ((peaveylaw03_Works.f kj40).bind fun t123 => (some t123)) else (if t104 ≤ t103 then ((peaveylaw03_Works.f kj40).bind fun t124 => (some t124)) else (some false))) else ((peaveylaw03_Works.f kj40).bind fun t125 => (some t125))) = some r := H
                          have A47 := Aside0.mk A470
                          clear A470
                          by_cases c48 : t122 = 0
                          · rw [if_pos c48] at H
                            have c48b0 : (t122 == 0) = true := beq_iff_eq.mpr c48
                            have c48b1 : (t122 != 0) = false := bne_eq_false_iff_eq.mpr c48
                            clear c48
                            by_cases c49 : t121 < (l0.length : Int)
                            · rw [if_pos c49] at H
                              have c49b0 : decide (t121 < (l0.length : Int)) = true := decide_eq_true c49
                              clear c49
                              replace H := Option.bind_eq_some_iff.mp H
                              obtain ⟨t123, A500, H⟩ := H
                              replace H : (some t123) = some r := H
                              have A50 := Aside0.mk A500
                              clear A500
                              obtain rfl := Option.some.inj H
                              go_wp2_with (first | ((with_reducible refine gate_callee (f := 19) rfl ?_); refine goesL_ (some 128) rfl rfl Try.func19 (by kernel_rfl) rfl #[.slice A0 l0.length c0, .int .i64 t103, .slice A3 l3.length c3] rfl (by (try simp only [List.map_toArray, List.map_cons, List.map_nil]); first | done | rfl | (simp only [List.length_drop, List.length_take]; rfl)) ?_; (with_reducible refine (gap_CheckTurning.calls _ _ l0 t103 _ _ l3 t121 t122 _ ?side1 ?side2 ?side3 ?side4 A47.out).mono ?_); (case side1 => repeat (first | exact (Kd.C_below HR0.out HB.out) | (with_reducible refine Kd.C_alloc ?_ _) | (with_reducible refine Kd.C_drewN ?_ _) | (with_reducible refine Kd.C_drew ?_))); (case side2 => exact HC0.out); (case side3 => repeat (first | exact (Kd.C_below HR3.out HB.out) | (with_reducible refine Kd.C_alloc ?_ _) | (with_reducible refine Kd.C_drewN ?_ _) | (with_reducible refine Kd.C_drew ?_))); (case side4 => exact HC3.out); rintro e w51 ⟨rfl, hb⟩; refine ⟨_, rfl, ?_⟩; have n0_ := Aside0.mk (below_step (by repeat (first | (with_reducible first | exact HB.out | apply below_alloc | apply pw_below_drewN | apply below_drew1) | exact HB.out)) hb); clear HB; have HB := n0_; clear n0_; (try clear hb); (try clear hb2); (try clear hk); (try clear hi)) | (go_at_call 18; (with_reducible refine (peaveylaw03_Works.calls kj40  t123 _ A50.out).mono ?_); rintro e w52 ⟨rfl, hb⟩; have n0_ := Aside0.mk (below_step (by repeat (first | (with_reducible first | exact HB.out | apply below_alloc | apply pw_below_drewN | apply below_drew1) | exact HB.out)) hb); clear HB; have HB := n0_; clear n0_; (try clear hb); (try clear hb2); (try clear hk); (try clear hi)))
                              go_ret
                              exact ⟨by first | rfl | (simp [errW_none, errW_some] <;> rfl) | (simp [*, errW_none, errW_some] <;> rfl), by repeat (first | (with_reducible first | exact HB.out | apply below_alloc | apply pw_below_drewN | apply below_drew1) | exact HB.out)⟩
                            · rw [if_neg c49] at H
                              have c49b0 : decide (t121 < (l0.length : Int)) = false := decide_eq_false c49
                              clear c49
                              by_cases c53 : t104 ≤ t103
                              · rw [if_pos c53] at H
                                have c53b0 : decide (t104 ≤ t103) = true := decide_eq_true c53
                                clear c53
                                replace H := Option.bind_eq_some_iff.mp H
                                obtain ⟨t124, A540, H⟩ := H
                                replace H : (some t124) = some r := H
                                have A54 := Aside0.mk A540
                                clear A540
                                obtain rfl := Option.some.inj H
                                go_wp2_with (first | ((with_reducible refine gate_callee (f := 19) rfl ?_); refine goesL_ (some 128) rfl rfl Try.func19 (by kernel_rfl) rfl #[.slice A0 l0.length c0, .int .i64 t103, .slice A3 l3.length c3] rfl (by (try simp only [List.map_toArray, List.map_cons, List.map_nil]); first | done | rfl | (simp only [List.length_drop, List.length_take]; rfl)) ?_; (with_reducible refine (gap_CheckTurning.calls _ _ l0 t103 _ _ l3 t121 t122 _ ?side1 ?side2 ?side3 ?side4 A47.out).mono ?_); (case side1 => repeat (first | exact (Kd.C_below HR0.out HB.out) | (with_reducible refine Kd.C_alloc ?_ _) | (with_reducible refine Kd.C_drewN ?_ _) | (with_reducible refine Kd.C_drew ?_))); (case side2 => exact HC0.out); (case side3 => repeat (first | exact (Kd.C_below HR3.out HB.out) | (with_reducible refine Kd.C_alloc ?_ _) | (with_reducible refine Kd.C_drewN ?_ _) | (with_reducible refine Kd.C_drew ?_))); (case side4 => exact HC3.out); rintro e w55 ⟨rfl, hb⟩; refine ⟨_, rfl, ?_⟩; have n0_ := Aside0.mk (below_step (by repeat (first | (with_reducible first | exact HB.out | apply below_alloc | apply pw_below_drewN | apply below_drew1) | exact HB.out)) hb); clear HB; have HB := n0_; clear n0_; (try clear hb); (try clear hb2); (try clear hk); (try clear hi)) | (go_at_call 18; (with_reducible refine (peaveylaw03_Works.calls kj40  t124 _ A54.out).mono ?_); rintro e w56 ⟨rfl, hb⟩; have n0_ := Aside0.mk (below_step (by repeat (first | (with_reducible first | exact HB.out | apply below_alloc | apply pw_below_drewN | apply below_drew1) | exact HB.out)) hb); clear HB; have HB := n0_; clear n0_; (try clear hb); (try clear hb2); (try clear hk); (try clear hi)))
                                go_ret
                                exact ⟨by first | rfl | (simp [errW_none, errW_some] <;> rfl) | (simp [*, errW_none, errW_some] <;> rfl), by repeat (first | (with_reducible first | exact HB.out | apply below_alloc | apply pw_below_drewN | apply below_drew1) | exact HB.out)⟩
                              · rw [if_neg c53] at H
                                have c53b0 : decide (t104 ≤ t103) = false := decide_eq_false c53
                                clear c53
                                obtain rfl := Option.some.inj H
                                go_wp2_with (first | ((with_reducible refine gate_callee (f := 19) rfl ?_); refine goesL_ (some 128) rfl rfl Try.func19 (by kernel_rfl) rfl #[.slice A0 l0.length c0, .int .i64 t103, .slice A3 l3.length c3] rfl (by (try simp only [List.map_toArray, List.map_cons, List.map_nil]); first | done | rfl | (simp only [List.length_drop, List.length_take]; rfl)) ?_; (with_reducible refine (gap_CheckTurning.calls _ _ l0 t103 _ _ l3 t121 t122 _ ?side1 ?side2 ?side3 ?side4 A47.out).mono ?_); (case side1 => repeat (first | exact (Kd.C_below HR0.out HB.out) | (with_reducible refine Kd.C_alloc ?_ _) | (with_reducible refine Kd.C_drewN ?_ _) | (with_reducible refine Kd.C_drew ?_))); (case side2 => exact HC0.out); (case side3 => repeat (first | exact (Kd.C_below HR3.out HB.out) | (with_reducible refine Kd.C_alloc ?_ _) | (with_reducible refine Kd.C_drewN ?_ _) | (with_reducible refine Kd.C_drew ?_))); (case side4 => exact HC3.out); rintro e w57 ⟨rfl, hb⟩; refine ⟨_, rfl, ?_⟩; have n0_ := Aside0.mk (below_step (by repeat (first | (with_reducible first | exact HB.out | apply below_alloc | apply pw_below_drewN | apply below_drew1) | exact HB.out)) hb); clear HB; have HB := n0_; clear n0_; (try clear hb); (try clear hb2); (try clear hk); (try clear hi)))
                                go_ret
                                exact ⟨by first | rfl | (simp [errW_none, errW_some] <;> rfl) | (simp [*, errW_none, errW_some] <;> rfl), by repeat (first | (with_reducible first | exact HB.out | apply below_alloc | apply pw_below_drewN | apply below_drew1) | exact HB.out)⟩
                          · rw [if_neg c48] at H
                            have c48b0 : (t122 == 0) = false := beq_eq_false_iff_ne.mpr c48
                            have c48b1 : (t122 != 0) = true := bne_iff_ne.mpr c48
                            replace H := Option.bind_eq_some_iff.mp H
                            obtain ⟨t125, A580, H⟩ := H
                            replace H : (some t125) = some r := H
                            have A58 := Aside0.mk A580
                            clear A580
                            obtain rfl := Option.some.inj H
                            go_wp2_with (first | ((with_reducible refine gate_callee (f := 19) rfl ?_); refine goesL_ (some 128) rfl rfl Try.func19 (by kernel_rfl) rfl #[.slice A0 l0.length c0, .int .i64 t103, .slice A3 l3.length c3] rfl (by (try simp only [List.map_toArray, List.map_cons, List.map_nil]); first | done | rfl | (simp only [List.length_drop, List.length_take]; rfl)) ?_; (with_reducible refine (gap_CheckTurning.calls _ _ l0 t103 _ _ l3 t121 t122 _ ?side1 ?side2 ?side3 ?side4 A47.out).mono ?_); (case side1 => repeat (first | exact (Kd.C_below HR0.out HB.out) | (with_reducible refine Kd.C_alloc ?_ _) | (with_reducible refine Kd.C_drewN ?_ _) | (with_reducible refine Kd.C_drew ?_))); (case side2 => exact HC0.out); (case side3 => repeat (first | exact (Kd.C_below HR3.out HB.out) | (with_reducible refine Kd.C_alloc ?_ _) | (with_reducible refine Kd.C_drewN ?_ _) | (with_reducible refine Kd.C_drew ?_))); (case side4 => exact HC3.out); rintro e w59 ⟨rfl, hb⟩; refine ⟨_, rfl, ?_⟩; have n0_ := Aside0.mk (below_step (by repeat (first | (with_reducible first | exact HB.out | apply below_alloc | apply pw_below_drewN | apply below_drew1) | exact HB.out)) hb); clear HB; have HB := n0_; clear n0_; (try clear hb); (try clear hb2); (try clear hk); (try clear hi)) | (go_at_call 18; (with_reducible refine (peaveylaw03_Works.calls kj40  t125 _ A58.out).mono ?_); rintro e w60 ⟨rfl, hb⟩; have n0_ := Aside0.mk (below_step (by repeat (first | (with_reducible first | exact HB.out | apply below_alloc | apply pw_below_drewN | apply below_drew1) | exact HB.out)) hb); clear HB; have HB := n0_; clear n0_; (try clear hb); (try clear hb2); (try clear hk); (try clear hi)))
                            go_ret
                            exact ⟨by first | rfl | (simp [errW_none, errW_some] <;> rfl) | (simp [*, errW_none, errW_some] <;> rfl), by repeat (first | (with_reducible first | exact HB.out | apply below_alloc | apply pw_below_drewN | apply below_drew1) | exact HB.out)⟩

/-- THE ONE PURE STATEMENT of peaveylaw03_GapEither: yours. -/
def peaveylaw03_GapEither.Pure : Prop := ∀ (l0 : List Int) (a1 : Int) (l2 : List Int) (l3 : List Int), l0.length ≤ maxLen → l0.length * 8 ≤ 140737488351232 → (∀ x ∈ l0, (Lit.int .i64 x).wf = true) → (Lit.int .u8 a1).wf = true → l2.length ≤ maxLen → l2.length * 8 ≤ 140737488351232 → (∀ x ∈ l2, (Lit.int .i64 x).wf = true) → l3.length ≤ maxLen → l3.length * 8 ≤ 140737488351232 → (∀ x ∈ l3, (Lit.int .i64 x).wf = true) → ∃ k, peaveylaw03_GapEither.f k l0 a1 l2 l3 = some true
theorem peaveylaw03_GapEither.walk (P : peaveylaw03_GapEither.Pure) (a0 : Option Addr) (len0 cap0 : Nat) (z0 : List Int) (a1 : Int) (a2 : Option Addr) (len2 cap2 : Nat) (z2 : List Int) (a3 : Option Addr) (len3 cap3 : Nat) (z3 : List Int) (w : World) (w0 : (a0 = none ∧ len0 = 0 ∧ cap0 = 0 ∧ z0 = []) ∨ ∃ x, a0 = some x ∧ len0 ≤ cap0 ∧ cap0 ≤ maxLen ∧ z0.length = cap0 ∧ (∀ i, i < z0.length → w.cell? (x.add i) = some (.int .i64 (z0.getD i 0))) ∧ ∀ n ∈ z0, (Lit.int .i64 n).wf = true) (y0 : len0 * 8 ≤ 140737488351232) (w1 : (Lit.int .u8 a1).wf = true) (w2 : (a2 = none ∧ len2 = 0 ∧ cap2 = 0 ∧ z2 = []) ∨ ∃ x, a2 = some x ∧ len2 ≤ cap2 ∧ cap2 ≤ maxLen ∧ z2.length = cap2 ∧ (∀ i, i < z2.length → w.cell? (x.add i) = some (.int .i64 (z2.getD i 0))) ∧ ∀ n ∈ z2, (Lit.int .i64 n).wf = true) (y2 : len2 * 8 ≤ 140737488351232) (w3 : (a3 = none ∧ len3 = 0 ∧ cap3 = 0 ∧ z3 = []) ∨ ∃ x, a3 = some x ∧ len3 ≤ cap3 ∧ cap3 ≤ maxLen ∧ z3.length = cap3 ∧ (∀ i, i < z3.length → w.cell? (x.add i) = some (.int .i64 (z3.getD i 0))) ∧ ∀ n ∈ z3, (Lit.int .i64 n).wf = true) (y3 : len3 * 8 ≤ 140737488351232) :
    Calls Try.prog 14 #[.slice a0 len0 cap0, .int .u8 a1, .slice a2 len2 cap2, .slice a3 len3 cap3] w fun e w' => e = .returned (.bool true) ∧ Below w.heap.size w w' := by
  obtain ⟨l0, rfl, hr0, hm0, hw0, hc0⟩ := ReadsInt.ofRowC w0
  obtain ⟨l2, rfl, hr2, hm2, hw2, hc2⟩ := ReadsInt.ofRowC w2
  obtain ⟨l3, rfl, hr3, hm3, hw3, hc3⟩ := ReadsInt.ofRowC w3
  obtain ⟨k, h⟩ := P l0 a1 l2 l3 hm0 y0 hw0 w1 hm2 y2 hw2 hm3 y3 hw3
  refine (peaveylaw03_GapEither.calls k _ _ l0 a1 _ _ l2 _ _ l3 true w (Kd.C_of_reads (d := (0 : Int)) (h1 := fun _ => rfl) hr0) hc0 (Kd.C_of_reads (d := (0 : Int)) (h1 := fun _ => rfl) hr2) hc2 (Kd.C_of_reads (d := (0 : Int)) (h1 := fun _ => rfl) hr3) hc3 h).mono ?_
  rintro e w' ⟨rfl, hd⟩
  exact ⟨rfl, hd⟩

end Go.Proofs.Ytmfonbonfhngnaa.Geith
