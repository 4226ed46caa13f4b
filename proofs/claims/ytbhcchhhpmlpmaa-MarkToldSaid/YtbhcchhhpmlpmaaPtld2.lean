/- The machine's side of some functions: each Go function as a plain Lean function, and a proof that its call comes to what that says. Written by a program of the session's over the kit's print. -/
import Derived.Test.YtbhcchhhpmlpmaaPtld0
namespace Go.Proofs.Ytbhcchhhpmlpmaa.Ptld
open Go.RowKit Go.Proofs.YtbhcchhhpmlpmaaW.PrintWords Go.Proofs.YtbhcchhhpmlpmaaW.PrintLast Go.Proofs.YtbhcchhhpmlpmaaW.PrintMore Go.Proofs.Ytbhcchhhpmlpmaa.Hand Go.Proofs.Ytbhcchhhpmlpmaa.PrA Go.Proofs.Ytbhcchhhpmlpmaa.PrR Go.Proofs.Ytbhcchhhpmlpmaa.PrC Go.Proofs.Ytbhcchhhpmlpmaa.PrS
attribute [local go_sem] max2_int min2_int max_two min_two max_three min_three max_four min_four   -- for this text's walks alone
set_option linter.unusedVariables false
set_option linter.unusedSimpArgs false

/-! ### peaveylaw01_MarkTold: function 11 -/
mutual
def peaveylaw01_MarkTold.j0 : Nat → Int → Int → Bool → Int → Int → List Int → Option (Bool)
  | 0, _, _, _, _, _, _ => none
  | k + 1, x1, x2, x24, x102000, x102001, x102002 => if x24 = true then ((peaveylaw01_Works.f k).bind fun t103 => (some t103)) else (if (x102002.length : Int) = 0 then (none) else ((mark_Told.f x102000 x102001 x102002 (Int.tmod (wrap64 (x1)) (x102002.length : Int))).bind fun bt104 => (if bt104.2 = 0 then (if bt104.1 < (-1) then (peaveylaw01_MarkTold.j1 k x2 (Int.tmod (wrap64 (x1)) (x102002.length : Int)) bt104.1 true x102000 x102001 x102002) else (peaveylaw01_MarkTold.j1 k x2 (Int.tmod (wrap64 (x1)) (x102002.length : Int)) bt104.1 (decide (bt104.1 > x102001)) x102000 x102001 x102002)) else (peaveylaw01_MarkTold.j1 k x2 (Int.tmod (wrap64 (x1)) (x102002.length : Int)) bt104.1 true x102000 x102001 x102002))))
def peaveylaw01_MarkTold.j1 : Nat → Int → Int → Int → Bool → Int → Int → List Int → Option (Bool)
  | 0, _, _, _, _, _, _, _ => none
  | k + 1, x2, x7, x8, x49, x102000, x102001, x102002 => if x49 = true then (some false) else (if 0 ≤ x7 then (if x7 < (x102002.length : Int) then ((mark_Owners.f x102000 x102001 x102002 (Go.bits .andNot .i64 (rd x102002 x7) (wrap64 (x2)))).bind fun bt107 => (if bt107.2 = 0 then (if x8 ≥ 0 then ((peaveyref01_CanBe.f k (Go.bits .andNot .i64 (rd x102002 x7) (wrap64 (x2))) (rd x102002 x7) x8).bind fun t112 => (if t112 = true then ((peaveylaw01_Ints.f k bt107.1 (([x7] : List Int))).bind fun t116 => (peaveylaw01_MarkTold.j2 k x7 x8 (!t116) x102000 x102001 x102002)) else (peaveylaw01_MarkTold.j2 k x7 x8 false x102000 x102001 x102002))) else (peaveylaw01_MarkTold.j2 k x7 x8 false x102000 x102001 x102002)) else (peaveylaw01_MarkTold.j2 k x7 x8 true x102000 x102001 x102002))) else (none)) else (none))
def peaveylaw01_MarkTold.j2 : Nat → Int → Int → Bool → Int → Int → List Int → Option (Bool)
  | 0, _, _, _, _, _, _ => none
  | k + 1, x7, x8, x86, x102000, x102001, x102002 => if x86 = true then (some false) else (if x8 = x102001 then ((peaveylaw01_Works.f k).bind fun t117 => (some t117)) else (peaveylaw01_MarkTold.l0 k x7 x8 0 x102000 x102001 x102002))
def peaveylaw01_MarkTold.l0 : Nat → Int → Int → Int → Int → Int → List Int → Option (Bool)
  | 0, _, _, _, _, _, _ => none
  | k + 1, x7, x8, x13, x102000, x102001, x102002 => if 0 ≤ x7 then (if x7 < (x102002.length : Int) then (if x13 ≤ (rd x102002 x7) then ((peaveyref01_CanBe.f k x13 (rd x102002 x7) (wrap64 (x8 + 1))).bind fun t120 => (if t120 = true then ((peaveyref01_OwnersOf.f k x102000 x102001 x102002 x13).bind fun t121 => (peaveylaw01_MarkTold.j4 k x7 x8 x13 (decide ((t121.length : Int) > 1)) x102000 x102001 x102002)) else (peaveylaw01_MarkTold.j4 k x7 x8 x13 false x102000 x102001 x102002))) else (some false)) else (none)) else (none)
def peaveylaw01_MarkTold.j4 : Nat → Int → Int → Int → Bool → Int → Int → List Int → Option (Bool)
  | 0, _, _, _, _, _, _, _ => none
  | k + 1, x7, x8, x13, x116, x102000, x102001, x102002 => if x116 = true then ((mark_Owners.f x102000 x102001 x102002 x13).bind fun bt124 => (if bt124.2 = 0 then (if (bt124.1.length : Int) > 1 then ((peaveylaw01_Works.f k).bind fun t128 => (some t128)) else (some false)) else (some false))) else (peaveylaw01_MarkTold.l0 k x7 x8 (wrap64 (x13 + 1)) x102000 x102001 x102002)
end
def peaveylaw01_MarkTold.f (k : Nat) (a0_0 : Int) (a0_1 : Int) (l0_2 : List Int) (a1 : Int) (a2 : Int) : Option (Bool) := (peaveylaw01_fine.f k a0_0 a0_1 l0_2).bind fun t102 => (if t102 = true then (peaveylaw01_MarkTold.j0 k a1 a2 ((l0_2.length : Int) == 0) a0_0 a0_1 l0_2) else (peaveylaw01_MarkTold.j0 k a1 a2 true a0_0 a0_1 l0_2))
theorem peaveylaw01_MarkTold.mono_l : ∀ k, (∀ y0 y1 y2 y3 y4 y5, LeO (peaveylaw01_MarkTold.j0 k y0 y1 y2 y3 y4 y5) (peaveylaw01_MarkTold.j0 (k + 1) y0 y1 y2 y3 y4 y5)) ∧ (∀ y0 y1 y2 y3 y4 y5 y6, LeO (peaveylaw01_MarkTold.j1 k y0 y1 y2 y3 y4 y5 y6) (peaveylaw01_MarkTold.j1 (k + 1) y0 y1 y2 y3 y4 y5 y6)) ∧ (∀ y0 y1 y2 y3 y4 y5, LeO (peaveylaw01_MarkTold.j2 k y0 y1 y2 y3 y4 y5) (peaveylaw01_MarkTold.j2 (k + 1) y0 y1 y2 y3 y4 y5)) ∧ (∀ y0 y1 y2 y3 y4 y5, LeO (peaveylaw01_MarkTold.l0 k y0 y1 y2 y3 y4 y5) (peaveylaw01_MarkTold.l0 (k + 1) y0 y1 y2 y3 y4 y5)) ∧ (∀ y0 y1 y2 y3 y4 y5 y6, LeO (peaveylaw01_MarkTold.j4 k y0 y1 y2 y3 y4 y5 y6) (peaveylaw01_MarkTold.j4 (k + 1) y0 y1 y2 y3 y4 y5 y6))
  | 0 => ⟨fun _ _ _ _ _ _ r h => by simp [peaveylaw01_MarkTold.j0] at h, fun _ _ _ _ _ _ _ r h => by simp [peaveylaw01_MarkTold.j1] at h, fun _ _ _ _ _ _ r h => by simp [peaveylaw01_MarkTold.j2] at h, fun _ _ _ _ _ _ r h => by simp [peaveylaw01_MarkTold.l0] at h, fun _ _ _ _ _ _ _ r h => by simp [peaveylaw01_MarkTold.j4] at h⟩
  | k + 1 => by
    obtain ⟨ih0, ih1, ih2, ih3, ih4⟩ := peaveylaw01_MarkTold.mono_l k
    refine ⟨?_, ?_, ?_, ?_, ?_⟩
    · intro y0 y1 y2 y3 y4 y5
      unfold peaveylaw01_MarkTold.j0
      repeat' first
      | (with_reducible exact ih0 _ _ _ _ _ _)
      | (with_reducible exact ih1 _ _ _ _ _ _ _)
      | (with_reducible exact ih2 _ _ _ _ _ _)
      | (with_reducible exact ih3 _ _ _ _ _ _)
      | (with_reducible exact ih4 _ _ _ _ _ _ _)
      | (with_reducible exact peaveylaw01_Ints.mono _ _ _)
      | (with_reducible exact peaveylaw01_Works.mono _)
      | (with_reducible exact peaveylaw01_fine.mono _ _ _ _)
      | (with_reducible exact peaveyref01_CanBe.mono _ _ _ _)
      | (with_reducible exact peaveyref01_OwnersOf.mono _ _ _ _ _)
      | (with_reducible exact LeO.refl _)
      | (with_reducible exact LeO.none _)
      | (with_reducible refine LeO.ite ?_ ?_)
      | (with_reducible refine LeO.bind ?_ (fun _ => ?_))
      | exact ih0 _ _ _ _ _ _
      | exact ih1 _ _ _ _ _ _ _
      | exact ih2 _ _ _ _ _ _
      | exact ih3 _ _ _ _ _ _
      | exact ih4 _ _ _ _ _ _ _
      | exact peaveylaw01_Ints.mono _ _ _
      | exact peaveylaw01_Works.mono _
      | exact peaveylaw01_fine.mono _ _ _ _
      | exact peaveyref01_CanBe.mono _ _ _ _
      | exact peaveyref01_OwnersOf.mono _ _ _ _ _
      | exact LeO.none _
      | refine LeO.ite ?_ ?_
      | refine LeO.bind ?_ (fun _ => ?_)
    · intro y0 y1 y2 y3 y4 y5 y6
      unfold peaveylaw01_MarkTold.j1
      repeat' first
      | (with_reducible exact ih0 _ _ _ _ _ _)
      | (with_reducible exact ih1 _ _ _ _ _ _ _)
      | (with_reducible exact ih2 _ _ _ _ _ _)
      | (with_reducible exact ih3 _ _ _ _ _ _)
      | (with_reducible exact ih4 _ _ _ _ _ _ _)
      | (with_reducible exact peaveylaw01_Ints.mono _ _ _)
      | (with_reducible exact peaveylaw01_Works.mono _)
      | (with_reducible exact peaveylaw01_fine.mono _ _ _ _)
      | (with_reducible exact peaveyref01_CanBe.mono _ _ _ _)
      | (with_reducible exact peaveyref01_OwnersOf.mono _ _ _ _ _)
      | (with_reducible exact LeO.refl _)
      | (with_reducible exact LeO.none _)
      | (with_reducible refine LeO.ite ?_ ?_)
      | (with_reducible refine LeO.bind ?_ (fun _ => ?_))
      | exact ih0 _ _ _ _ _ _
      | exact ih1 _ _ _ _ _ _ _
      | exact ih2 _ _ _ _ _ _
      | exact ih3 _ _ _ _ _ _
      | exact ih4 _ _ _ _ _ _ _
      | exact peaveylaw01_Ints.mono _ _ _
      | exact peaveylaw01_Works.mono _
      | exact peaveylaw01_fine.mono _ _ _ _
      | exact peaveyref01_CanBe.mono _ _ _ _
      | exact peaveyref01_OwnersOf.mono _ _ _ _ _
      | exact LeO.none _
      | refine LeO.ite ?_ ?_
      | refine LeO.bind ?_ (fun _ => ?_)
    · intro y0 y1 y2 y3 y4 y5
      unfold peaveylaw01_MarkTold.j2
      repeat' first
      | (with_reducible exact ih0 _ _ _ _ _ _)
      | (with_reducible exact ih1 _ _ _ _ _ _ _)
      | (with_reducible exact ih2 _ _ _ _ _ _)
      | (with_reducible exact ih3 _ _ _ _ _ _)
      | (with_reducible exact ih4 _ _ _ _ _ _ _)
      | (with_reducible exact peaveylaw01_Ints.mono _ _ _)
      | (with_reducible exact peaveylaw01_Works.mono _)
      | (with_reducible exact peaveylaw01_fine.mono _ _ _ _)
      | (with_reducible exact peaveyref01_CanBe.mono _ _ _ _)
      | (with_reducible exact peaveyref01_OwnersOf.mono _ _ _ _ _)
      | (with_reducible exact LeO.refl _)
      | (with_reducible exact LeO.none _)
      | (with_reducible refine LeO.ite ?_ ?_)
      | (with_reducible refine LeO.bind ?_ (fun _ => ?_))
      | exact ih0 _ _ _ _ _ _
      | exact ih1 _ _ _ _ _ _ _
      | exact ih2 _ _ _ _ _ _
      | exact ih3 _ _ _ _ _ _
      | exact ih4 _ _ _ _ _ _ _
      | exact peaveylaw01_Ints.mono _ _ _
      | exact peaveylaw01_Works.mono _
      | exact peaveylaw01_fine.mono _ _ _ _
      | exact peaveyref01_CanBe.mono _ _ _ _
      | exact peaveyref01_OwnersOf.mono _ _ _ _ _
      | exact LeO.none _
      | refine LeO.ite ?_ ?_
      | refine LeO.bind ?_ (fun _ => ?_)
    · intro y0 y1 y2 y3 y4 y5
      unfold peaveylaw01_MarkTold.l0
      repeat' first
      | (with_reducible exact ih0 _ _ _ _ _ _)
      | (with_reducible exact ih1 _ _ _ _ _ _ _)
      | (with_reducible exact ih2 _ _ _ _ _ _)
      | (with_reducible exact ih3 _ _ _ _ _ _)
      | (with_reducible exact ih4 _ _ _ _ _ _ _)
      | (with_reducible exact peaveylaw01_Ints.mono _ _ _)
      | (with_reducible exact peaveylaw01_Works.mono _)
      | (with_reducible exact peaveylaw01_fine.mono _ _ _ _)
      | (with_reducible exact peaveyref01_CanBe.mono _ _ _ _)
      | (with_reducible exact peaveyref01_OwnersOf.mono _ _ _ _ _)
      | (with_reducible exact LeO.refl _)
      | (with_reducible exact LeO.none _)
      | (with_reducible refine LeO.ite ?_ ?_)
      | (with_reducible refine LeO.bind ?_ (fun _ => ?_))
      | exact ih0 _ _ _ _ _ _
      | exact ih1 _ _ _ _ _ _ _
      | exact ih2 _ _ _ _ _ _
      | exact ih3 _ _ _ _ _ _
      | exact ih4 _ _ _ _ _ _ _
      | exact peaveylaw01_Ints.mono _ _ _
      | exact peaveylaw01_Works.mono _
      | exact peaveylaw01_fine.mono _ _ _ _
      | exact peaveyref01_CanBe.mono _ _ _ _
      | exact peaveyref01_OwnersOf.mono _ _ _ _ _
      | exact LeO.none _
      | refine LeO.ite ?_ ?_
      | refine LeO.bind ?_ (fun _ => ?_)
    · intro y0 y1 y2 y3 y4 y5 y6
      unfold peaveylaw01_MarkTold.j4
      repeat' first
      | (with_reducible exact ih0 _ _ _ _ _ _)
      | (with_reducible exact ih1 _ _ _ _ _ _ _)
      | (with_reducible exact ih2 _ _ _ _ _ _)
      | (with_reducible exact ih3 _ _ _ _ _ _)
      | (with_reducible exact ih4 _ _ _ _ _ _ _)
      | (with_reducible exact peaveylaw01_Ints.mono _ _ _)
      | (with_reducible exact peaveylaw01_Works.mono _)
      | (with_reducible exact peaveylaw01_fine.mono _ _ _ _)
      | (with_reducible exact peaveyref01_CanBe.mono _ _ _ _)
      | (with_reducible exact peaveyref01_OwnersOf.mono _ _ _ _ _)
      | (with_reducible exact LeO.refl _)
      | (with_reducible exact LeO.none _)
      | (with_reducible refine LeO.ite ?_ ?_)
      | (with_reducible refine LeO.bind ?_ (fun _ => ?_))
      | exact ih0 _ _ _ _ _ _
      | exact ih1 _ _ _ _ _ _ _
      | exact ih2 _ _ _ _ _ _
      | exact ih3 _ _ _ _ _ _
      | exact ih4 _ _ _ _ _ _ _
      | exact peaveylaw01_Ints.mono _ _ _
      | exact peaveylaw01_Works.mono _
      | exact peaveylaw01_fine.mono _ _ _ _
      | exact peaveyref01_CanBe.mono _ _ _ _
      | exact peaveyref01_OwnersOf.mono _ _ _ _ _
      | exact LeO.none _
      | refine LeO.ite ?_ ?_
      | refine LeO.bind ?_ (fun _ => ?_)
theorem peaveylaw01_MarkTold.mono : ∀ a0 a1 a2 a3 a4 k, LeO (peaveylaw01_MarkTold.f k a0 a1 a2 a3 a4) (peaveylaw01_MarkTold.f (k + 1) a0 a1 a2 a3 a4) := by
  intro a0 a1 a2 a3 a4 k
  obtain ⟨ih0, ih1, ih2, ih3, ih4⟩ := peaveylaw01_MarkTold.mono_l k
  unfold peaveylaw01_MarkTold.f
  repeat' first
      | (with_reducible exact ih0 _ _ _ _ _ _)
      | (with_reducible exact ih1 _ _ _ _ _ _ _)
      | (with_reducible exact ih2 _ _ _ _ _ _)
      | (with_reducible exact ih3 _ _ _ _ _ _)
      | (with_reducible exact ih4 _ _ _ _ _ _ _)
      | (with_reducible exact peaveylaw01_Ints.mono _ _ _)
      | (with_reducible exact peaveylaw01_Works.mono _)
      | (with_reducible exact peaveylaw01_fine.mono _ _ _ _)
      | (with_reducible exact peaveyref01_CanBe.mono _ _ _ _)
      | (with_reducible exact peaveyref01_OwnersOf.mono _ _ _ _ _)
      | (with_reducible exact LeO.refl _)
      | (with_reducible exact LeO.none _)
      | (with_reducible refine LeO.ite ?_ ?_)
      | (with_reducible refine LeO.bind ?_ (fun _ => ?_))
      | exact ih0 _ _ _ _ _ _
      | exact ih1 _ _ _ _ _ _ _
      | exact ih2 _ _ _ _ _ _
      | exact ih3 _ _ _ _ _ _
      | exact ih4 _ _ _ _ _ _ _
      | exact peaveylaw01_Ints.mono _ _ _
      | exact peaveylaw01_Works.mono _
      | exact peaveylaw01_fine.mono _ _ _ _
      | exact peaveyref01_CanBe.mono _ _ _ _
      | exact peaveyref01_OwnersOf.mono _ _ _ _ _
      | exact LeO.none _
      | refine LeO.ite ?_ ?_
      | refine LeO.bind ?_ (fun _ => ?_)
set_option maxHeartbeats 8000000 in
set_option maxRecDepth 100000 in
theorem peaveylaw01_MarkTold.calls (k : Nat) (a0_0 : Int) (a0_1 : Int) (A0_2 : Option Addr) (c0_2 : Nat) (l0_2 : List Int) (a1 : Int) (a2 : Int) (r : Bool) (w : World) (hr0_2 : Kd.C (Kd.int .i64) w A0_2 l0_2.length l0_2) (hc0_2 : l0_2.length ≤ c0_2) (h : peaveylaw01_MarkTold.f k a0_0 a0_1 l0_2 a1 a2 = some r) :
  Calls Try.prog 11 #[.agg #[.int .i64 a0_0, .int .i64 a0_1, .slice A0_2 l0_2.length c0_2], .int .u8 a1, .int .u16 a2] w fun e w' => e = .returned (.bool r) ∧ Below w.heap.size w w' := by
 have hu24 := Try.underlying24
 have HR0_2 := Aside0.mk hr0_2
 have HC0_2 := Aside0.mk hc0_2
 clear hr0_2 hc0_2
 have HB := Aside0.mk (Below.refl w.heap.size w)
 have H : ((peaveylaw01_fine.f k a0_0 a0_1 l0_2).bind fun t102 => (if t102 = true then (peaveylaw01_MarkTold.j0 k a1 a2 ((l0_2.length : Int) == 0) a0_0 a0_1 l0_2) else (peaveylaw01_MarkTold.j0 k a1 a2 true a0_0 a0_1 l0_2))) = some r := h
 clear h
 have HC4 := Aside0.mk H
 clear H
 go_enter Try.func11, Try.ntmps11
 go_upto_region 1 with (first | ((with_reducible refine gate_dst (N := 3) rfl ?_); (try (refine gate_guard (by rfl) ?_; dsimp only)); refine box_event ?hg (N := 3) ?hd (cs := #[.int .i64 a0_0, .int .i64 a0_1, .slice A0_2 l0_2.length c0_2]) (t := 24) ?hr ?_; (case hd => rfl); (case hg => rfl); (case hr => first | (go_simp; done) | (go_simp; rfl)); intro gb101 hg w5 hbox hb; have n0_ := Aside0.mk (below_step (by repeat (first | (with_reducible first | exact HB.out | apply below_alloc | apply pw_below_drewN | apply below_drew1) | exact HB.out)) hb); have n1_ := Aside0.mk (hbox); have n2_ := Aside0.mk ((by rw [hg]; exact (below_size (by repeat (first | (with_reducible first | exact HB.out | apply below_alloc | apply pw_below_drewN | apply below_drew1) | exact HB.out))) : w.heap.size ≤ gb101)); have n3_ := Aside0.mk ((by rw [hg]; exact (below_size (by repeat (first | (with_reducible first | exact HB.out | apply below_alloc | apply pw_below_drewN | apply below_drew1) | exact HB.out))) : w.heap.size ≤ gb101)); clear HB; have HB := n0_; have BK101 := n1_; have GW101 := n2_; have GE101 := n3_; clear n0_ n1_ n2_ n3_; clear hb hbox hg))
 (try simp only [Act.put, List.setIfInBounds_toArray, List.set_cons_zero, List.set_cons_succ])
 go_cut [24] (fun v24 wc => ∃ (kq : Nat) (x24_3 : Bool), v24 = .bool x24_3 ∧ Aside0 (peaveylaw01_MarkTold.j0 kq a1 a2 x24_3 a0_0 a0_1 l0_2 = some r) ∧ Aside0 (kq ≤ k) ∧ Aside0 (wc.heap[gb101]? = some (.cells #[.int .i64 a0_0, .int .i64 a0_1, (.slice A0_2 l0_2.length c0_2)] 24 (0, 0))) ∧ Aside0 (Below w.heap.size w wc))
 case first =>
  have H := HC4.out
  clear HC4
  replace H := Option.bind_eq_some_iff.mp H
  obtain ⟨t102, A60, H⟩ := H
  replace H : (if t102 = true then (peaveylaw01_MarkTold.j0 k a1 a2 ((l0_2.length : Int) == 0) a0_0 a0_1 l0_2) else (peaveylaw01_MarkTold.j0 k a1 a2 true a0_0 a0_1 l0_2)) = some r := H
  have A6 := Aside0.mk A60
  clear A60
  by_cases c7 : t102 = true
  ·
   subst c7
   have H1 : (peaveylaw01_MarkTold.j0 k a1 a2 ((l0_2.length : Int) == 0) a0_0 a0_1 l0_2) = some r := by rw [if_pos rfl] at H; exact H
   clear H
   have H := H1
   clear H1
   have H' := Aside0.mk H
   clear H
   have hcz8_0 : w5.cell? ⟨gb101, 0, none⟩ = some (.int .i64 a0_0) := (blk_cell BK101.out 0).trans rfl
   have hcz8_1 : w5.cell? ⟨gb101, 1, none⟩ = some (.int .i64 a0_1) := (blk_cell BK101.out 1).trans rfl
   have hcz8_2 : w5.cell? ⟨gb101, 2, none⟩ = some (.slice A0_2 l0_2.length c0_2) := (blk_cell BK101.out 2).trans rfl
   have hfz8_0 := blk_frozen BK101.out 0
   have hfz8_1 := blk_frozen BK101.out 1
   have hfz8_2 := blk_frozen BK101.out 2
   go_wp2_with (first | ((with_reducible refine gate_callee (f := 41) rfl ?_); refine goesL_ (some 17) rfl rfl Try.func41 (by kernel_rfl) rfl #[.agg #[.int .i64 a0_0, .int .i64 a0_1, .slice A0_2 l0_2.length c0_2]] rfl (by (try simp only [List.map_toArray, List.map_cons, List.map_nil]); first | done | rfl | (simp only [List.length_drop, List.length_take]; rfl)) ?_; (with_reducible refine (peaveylaw01_fine.calls k a0_0 a0_1 _ _ l0_2 true _ ?side1 ?side2 A6.out).mono ?_); (case side1 => repeat (first | exact (Kd.C_below HR0_2.out HB.out) | (with_reducible refine Kd.C_alloc ?_ _) | (with_reducible refine Kd.C_drewN ?_ _) | (with_reducible refine Kd.C_drew ?_))); (case side2 => exact HC0_2.out); rintro e w9 ⟨rfl, hb⟩; refine ⟨_, rfl, ?_⟩; have n0_ := Aside0.mk (blk_below (g := gb101) (o := .cells #[.int .i64 a0_0, .int .i64 a0_1, .slice A0_2 l0_2.length c0_2] 24 (0, 0)) (by (with_reducible repeat (first | refine blk_drewN ?_ _ | refine blk_drew ?_ | refine blk_alloc ?_ _)); exact BK101.out) hb); have n1_ := Aside0.mk (below_step (by repeat (first | (with_reducible first | exact HB.out | apply below_alloc | apply pw_below_drewN | apply below_drew1 | refine below_set ?_ GE101.out) | exact HB.out)) hb); clear BK101; clear HB; have BK101 := n0_; have HB := n1_; clear n0_ n1_; (try clear hb); (try clear hb2); (try clear hk); (try clear hi); have hcz10_0 : w9.cell? ⟨gb101, 0, none⟩ = some (.int .i64 a0_0) := (blk_cell BK101.out 0).trans rfl; have hcz10_1 : w9.cell? ⟨gb101, 1, none⟩ = some (.int .i64 a0_1) := (blk_cell BK101.out 1).trans rfl; have hcz10_2 : w9.cell? ⟨gb101, 2, none⟩ = some (.slice A0_2 l0_2.length c0_2) := (blk_cell BK101.out 2).trans rfl; have hfz10_0 := blk_frozen BK101.out 0; have hfz10_1 := blk_frozen BK101.out 1; have hfz10_2 := blk_frozen BK101.out 2))
   go_meet
   case rel => exact ⟨_, (((l0_2.length : Int) == 0)), (by first | rfl | (simp; done) | (simp [*]; done)), H', ⟨by first | omega | exact Nat.le_refl _⟩, ⟨by (with_reducible repeat (first | refine blk_drewN ?_ _ | refine blk_drew ?_ | refine blk_alloc ?_ _)); exact BK101.out⟩, ⟨by repeat (first | (with_reducible first | exact HB.out | apply below_alloc | apply pw_below_drewN | apply below_drew1 | refine below_set ?_ GE101.out) | exact HB.out)⟩⟩
  ·
   replace c7 := Bool.eq_false_iff.mpr c7
   subst c7
   have H1 : (peaveylaw01_MarkTold.j0 k a1 a2 true a0_0 a0_1 l0_2) = some r := by rw [if_neg (show ¬ (false = true) by decide)] at H; exact H
   clear H
   have H := H1
   clear H1
   have H' := Aside0.mk H
   clear H
   have hcz11_0 : w5.cell? ⟨gb101, 0, none⟩ = some (.int .i64 a0_0) := (blk_cell BK101.out 0).trans rfl
   have hcz11_1 : w5.cell? ⟨gb101, 1, none⟩ = some (.int .i64 a0_1) := (blk_cell BK101.out 1).trans rfl
   have hcz11_2 : w5.cell? ⟨gb101, 2, none⟩ = some (.slice A0_2 l0_2.length c0_2) := (blk_cell BK101.out 2).trans rfl
   have hfz11_0 := blk_frozen BK101.out 0
   have hfz11_1 := blk_frozen BK101.out 1
   have hfz11_2 := blk_frozen BK101.out 2
   go_wp2_with (first | ((with_reducible refine gate_callee (f := 41) rfl ?_); refine goesL_ (some 17) rfl rfl Try.func41 (by kernel_rfl) rfl #[.agg #[.int .i64 a0_0, .int .i64 a0_1, .slice A0_2 l0_2.length c0_2]] rfl (by (try simp only [List.map_toArray, List.map_cons, List.map_nil]); first | done | rfl | (simp only [List.length_drop, List.length_take]; rfl)) ?_; (with_reducible refine (peaveylaw01_fine.calls k a0_0 a0_1 _ _ l0_2 false _ ?side1 ?side2 A6.out).mono ?_); (case side1 => repeat (first | exact (Kd.C_below HR0_2.out HB.out) | (with_reducible refine Kd.C_alloc ?_ _) | (with_reducible refine Kd.C_drewN ?_ _) | (with_reducible refine Kd.C_drew ?_))); (case side2 => exact HC0_2.out); rintro e w12 ⟨rfl, hb⟩; refine ⟨_, rfl, ?_⟩; have n0_ := Aside0.mk (blk_below (g := gb101) (o := .cells #[.int .i64 a0_0, .int .i64 a0_1, .slice A0_2 l0_2.length c0_2] 24 (0, 0)) (by (with_reducible repeat (first | refine blk_drewN ?_ _ | refine blk_drew ?_ | refine blk_alloc ?_ _)); exact BK101.out) hb); have n1_ := Aside0.mk (below_step (by repeat (first | (with_reducible first | exact HB.out | apply below_alloc | apply pw_below_drewN | apply below_drew1 | refine below_set ?_ GE101.out) | exact HB.out)) hb); clear BK101; clear HB; have BK101 := n0_; have HB := n1_; clear n0_ n1_; (try clear hb); (try clear hb2); (try clear hk); (try clear hi)))
   go_meet
   case rel => exact ⟨_, (true), (by first | rfl | (simp; done) | (simp [*]; done)), H', ⟨by first | omega | exact Nat.le_refl _⟩, ⟨by (with_reducible repeat (first | refine blk_drewN ?_ _ | refine blk_drew ?_ | refine blk_alloc ?_ _)); exact BK101.out⟩, ⟨by repeat (first | (with_reducible first | exact HB.out | apply below_alloc | apply pw_below_drewN | apply below_drew1 | refine below_set ?_ GE101.out) | exact HB.out)⟩⟩
 case rest =>
  clear HC4
  try clear c1
  try clear p2
  try clear c4
  try clear c7
  try clear c11
  try clear hcz10_0
  try clear hcz10_1
  try clear hcz10_2
  try clear hcz11_0
  try clear hcz11_1
  try clear hcz11_2
  try clear hcz8_0
  try clear hcz8_1
  try clear hcz8_2
  try clear hfz10_0
  try clear hfz10_1
  try clear hfz10_2
  try clear hfz11_0
  try clear hfz11_1
  try clear hfz11_2
  try clear hfz8_0
  try clear hfz8_1
  try clear hfz8_2
  obtain ⟨kq, x24_3, rfl, HA, HJ3, BK101, HB⟩ := hcut
  cases kq with
  | zero => exact absurd HA.out (by simp [peaveylaw01_MarkTold.j0])
  | succ kj3 =>
   have H := HA.out
   clear HA
   simp only [peaveylaw01_MarkTold.j0] at H
   by_cases c13 : x24_3 = true
   ·
    subst c13
    have H1 : ((peaveylaw01_Works.f kj3).bind fun t103 => (some t103)) = some r := by rw [if_pos rfl] at H; exact H
    clear H
    have H := H1
    clear H1
    replace H := Option.bind_eq_some_iff.mp H
    obtain ⟨t103, A140, H⟩ := H
    replace H : (some t103) = some r := H
    have A14 := Aside0.mk A140
    clear A140
    obtain rfl := Option.some.inj H
    go_wp2_with (first | ((with_reducible refine gate_callee (f := 18) rfl ?_); refine goesL_ (some 25) rfl rfl Try.func18 (by kernel_rfl) rfl #[] rfl (by (try simp only [List.map_toArray, List.map_cons, List.map_nil]); first | done | rfl | (simp only [List.length_drop, List.length_take]; rfl)) ?_; (with_reducible refine (peaveylaw01_Works.calls kj3  t103 _ A14.out).mono ?_); rintro e w15 ⟨rfl, hb⟩; refine ⟨_, rfl, ?_⟩; have n0_ := Aside0.mk (blk_below (g := gb101) (o := .cells #[.int .i64 a0_0, .int .i64 a0_1, .slice A0_2 l0_2.length c0_2] 24 (0, 0)) (by (with_reducible repeat (first | refine blk_drewN ?_ _ | refine blk_drew ?_ | refine blk_alloc ?_ _)); exact BK101.out) hb); have n1_ := Aside0.mk (below_step (by repeat (first | (with_reducible first | exact HB.out | apply below_alloc | apply pw_below_drewN | apply below_drew1 | refine below_set ?_ GE101.out) | exact HB.out)) hb); clear BK101; clear HB; have BK101 := n0_; have HB := n1_; clear n0_ n1_; (try clear hb); (try clear hb2); (try clear hk); (try clear hi)))
    go_ret
    exact ⟨by first | rfl | (simp [errW_none, errW_some] <;> rfl) | (simp [*, errW_none, errW_some] <;> rfl), by repeat (first | (with_reducible first | exact HB.out | apply below_alloc | apply pw_below_drewN | apply below_drew1 | refine below_set ?_ GE101.out) | exact HB.out)⟩
   ·
    replace c13 := Bool.eq_false_iff.mpr c13
    subst c13
    have H1 : (if (l0_2.length : Int) = 0 then (none) else ((mark_Told.f a0_0 a0_1 l0_2 (Int.tmod (wrap64 (a1)) (l0_2.length : Int))).bind fun bt104 => (if bt104.2 = 0 then (if bt104.1 < (-1) then (peaveylaw01_MarkTold.j1 kj3 a2 (Int.tmod (wrap64 (a1)) (l0_2.length : Int)) bt104.1 true a0_0 a0_1 l0_2) else (peaveylaw01_MarkTold.j1 kj3 a2 (Int.tmod (wrap64 (a1)) (l0_2.length : Int)) bt104.1 (decide (bt104.1 > a0_1)) a0_0 a0_1 l0_2)) else (peaveylaw01_MarkTold.j1 kj3 a2 (Int.tmod (wrap64 (a1)) (l0_2.length : Int)) bt104.1 true a0_0 a0_1 l0_2)))) = some r := by rw [if_neg (show ¬ (false = true) by decide)] at H; exact H
    clear H
    have H := H1
    clear H1
    by_cases c16 : (l0_2.length : Int) = 0
    ·
     rw [if_pos c16] at H
     exact absurd H (by simp)
    ·
     rw [if_neg c16] at H
     have c16b0 : ((l0_2.length : Int) == 0) = false := beq_eq_false_iff_ne.mpr c16
     have c16b1 : ((l0_2.length : Int) != 0) = true := bne_iff_ne.mpr c16
     have c16b2 : ¬ (l0_2 = []) := fun h_ => c16 (by rw [h_]; rfl)
     replace H := Option.bind_eq_some_iff.mp H
     obtain ⟨⟨t104, t105⟩, A170, H⟩ := H
     replace H : (if t105 = 0 then (if t104 < (-1) then (peaveylaw01_MarkTold.j1 kj3 a2 (Int.tmod (wrap64 (a1)) (l0_2.length : Int)) t104 true a0_0 a0_1 l0_2) else (peaveylaw01_MarkTold.j1 kj3 a2 (Int.tmod (wrap64 (a1)) (l0_2.length : Int)) t104 (decide (t104 > a0_1)) a0_0 a0_1 l0_2)) else (peaveylaw01_MarkTold.j1 kj3 a2 (Int.tmod (wrap64 (a1)) (l0_2.length : Int)) t104 true a0_0 a0_1 l0_2)) = some r := H
     have A17 := Aside0.mk A170
     clear A170
     have HC18 := Aside0.mk H
     clear H
     have hcz19_0 : wc.cell? ⟨gb101, 0, none⟩ = some (.int .i64 a0_0) := (blk_cell BK101.out 0).trans rfl
     have hcz19_1 : wc.cell? ⟨gb101, 1, none⟩ = some (.int .i64 a0_1) := (blk_cell BK101.out 1).trans rfl
     have hcz19_2 : wc.cell? ⟨gb101, 2, none⟩ = some (.slice A0_2 l0_2.length c0_2) := (blk_cell BK101.out 2).trans rfl
     have hfz19_0 := blk_frozen BK101.out 0
     have hfz19_1 := blk_frozen BK101.out 1
     have hfz19_2 := blk_frozen BK101.out 2
     go_upto_region 5 with (first | ((with_reducible refine gate_callee (f := 30) rfl ?_); refine goesL_ (some 35) rfl rfl Try.func30 (by kernel_rfl) rfl #[.agg #[.int .i64 a0_0, .int .i64 a0_1, .slice A0_2 l0_2.length c0_2], .int .i64 (Int.tmod (wrap64 (a1)) (l0_2.length : Int))] rfl (by (try simp only [List.map_toArray, List.map_cons, List.map_nil]); first | done | rfl | (simp only [List.length_drop, List.length_take]; rfl)) ?_; (with_reducible refine (mark_Told.calls a0_0 a0_1 _ _ l0_2 (Int.tmod (wrap64 (a1)) (l0_2.length : Int)) t104 t105 _ ?side1 ?side2 A17.out).mono ?_); (case side1 => repeat (first | exact (Kd.C_below HR0_2.out HB.out) | (with_reducible refine Kd.C_alloc ?_ _) | (with_reducible refine Kd.C_drewN ?_ _) | (with_reducible refine Kd.C_drew ?_))); (case side2 => exact HC0_2.out); rintro e w20 ⟨rfl, hb⟩; refine ⟨_, rfl, ?_⟩; have n0_ := Aside0.mk (blk_below (g := gb101) (o := .cells #[.int .i64 a0_0, .int .i64 a0_1, .slice A0_2 l0_2.length c0_2] 24 (0, 0)) (by (with_reducible repeat (first | refine blk_drewN ?_ _ | refine blk_drew ?_ | refine blk_alloc ?_ _)); exact BK101.out) hb); have n1_ := Aside0.mk (below_step (by repeat (first | (with_reducible first | exact HB.out | apply below_alloc | apply pw_below_drewN | apply below_drew1 | refine below_set ?_ GE101.out) | exact HB.out)) hb); clear BK101; clear HB; have BK101 := n0_; have HB := n1_; clear n0_ n1_; (try clear hb); (try clear hb2); (try clear hk); (try clear hi)))
     (try simp only [Act.put, List.setIfInBounds_toArray, List.set_cons_zero, List.set_cons_succ])
     go_cut [49] (fun v49 wc => ∃ (kq : Nat) (x49_17 : Bool), v49 = .bool x49_17 ∧ Aside0 (peaveylaw01_MarkTold.j1 kq a2 (Int.tmod (wrap64 (a1)) (l0_2.length : Int)) t104 x49_17 a0_0 a0_1 l0_2 = some r) ∧ Aside0 (kq ≤ kj3) ∧ Aside0 (wc.heap[gb101]? = some (.cells #[.int .i64 a0_0, .int .i64 a0_1, (.slice A0_2 l0_2.length c0_2)] 24 (0, 0))) ∧ Aside0 (Below w.heap.size w wc))
     case first =>
      have H := HC18.out
      clear HC18
      by_cases c21 : t105 = 0
      ·
       rw [if_pos c21] at H
       have c21b0 : (t105 == 0) = true := beq_iff_eq.mpr c21
       have c21b1 : (t105 != 0) = false := bne_eq_false_iff_eq.mpr c21
       clear c21
       (first | rw [c21b0] | (simp only [i64_w, i32_w]; rw [c21b0]) | skip)
       by_cases c22 : t104 < (-1)
       ·
        rw [if_pos c22] at H
        have c22b0 : decide (t104 < (-1)) = true := decide_eq_true c22
        clear c22
        have H' := Aside0.mk H
        clear H
        go_wp2
        go_meet
        case rel => exact ⟨_, (true), (by first | rfl | (simp; done) | (simp [*]; done)), H', ⟨by have := HJ3.out; first | omega | exact Nat.le_refl _⟩, ⟨by (with_reducible repeat (first | refine blk_drewN ?_ _ | refine blk_drew ?_ | refine blk_alloc ?_ _)); exact BK101.out⟩, ⟨by repeat (first | (with_reducible first | exact HB.out | apply below_alloc | apply pw_below_drewN | apply below_drew1 | refine below_set ?_ GE101.out) | exact HB.out)⟩⟩
       ·
        rw [if_neg c22] at H
        have c22b0 : decide (t104 < (-1)) = false := decide_eq_false c22
        clear c22
        have H' := Aside0.mk H
        clear H
        have hcz23_0 : w20.cell? ⟨gb101, 0, none⟩ = some (.int .i64 a0_0) := (blk_cell BK101.out 0).trans rfl
        have hcz23_1 : w20.cell? ⟨gb101, 1, none⟩ = some (.int .i64 a0_1) := (blk_cell BK101.out 1).trans rfl
        have hcz23_2 : w20.cell? ⟨gb101, 2, none⟩ = some (.slice A0_2 l0_2.length c0_2) := (blk_cell BK101.out 2).trans rfl
        have hfz23_0 := blk_frozen BK101.out 0
        have hfz23_1 := blk_frozen BK101.out 1
        have hfz23_2 := blk_frozen BK101.out 2
        go_wp2
        go_meet
        case rel => exact ⟨_, (decide (t104 > a0_1)), (by first | rfl | (simp; done) | (simp [*]; done)), H', ⟨by have := HJ3.out; first | omega | exact Nat.le_refl _⟩, ⟨by (with_reducible repeat (first | refine blk_drewN ?_ _ | refine blk_drew ?_ | refine blk_alloc ?_ _)); exact BK101.out⟩, ⟨by repeat (first | (with_reducible first | exact HB.out | apply below_alloc | apply pw_below_drewN | apply below_drew1 | refine below_set ?_ GE101.out) | exact HB.out)⟩⟩
      ·
       rw [if_neg c21] at H
       have c21b0 : (t105 == 0) = false := beq_eq_false_iff_ne.mpr c21
       have c21b1 : (t105 != 0) = true := bne_iff_ne.mpr c21
       (first | rw [c21b0] | (simp only [i64_w, i32_w]; rw [c21b0]) | skip)
       have H' := Aside0.mk H
       clear H
       go_wp2
       go_meet
       case rel => exact ⟨_, (true), (by first | rfl | (simp; done) | (simp [*]; done)), H', ⟨by have := HJ3.out; first | omega | exact Nat.le_refl _⟩, ⟨by (with_reducible repeat (first | refine blk_drewN ?_ _ | refine blk_drew ?_ | refine blk_alloc ?_ _)); exact BK101.out⟩, ⟨by repeat (first | (with_reducible first | exact HB.out | apply below_alloc | apply pw_below_drewN | apply below_drew1 | refine below_set ?_ GE101.out) | exact HB.out)⟩⟩
     case rest =>
      clear HC18
      try clear c1
      try clear c2
      try clear p2
      try clear c3
      try clear c4
      try clear p6
      try clear c7
      try clear c11
      try clear c13
      try clear c16
      try clear c16b0
      try clear c16b1
      try clear c16b2
      try clear c18
      try clear c21
      try clear c21b0
      try clear c21b1
      try clear c22
      try clear c22b0
      try clear hcz10_0
      try clear hcz10_1
      try clear hcz10_2
      try clear hcz11_0
      try clear hcz11_1
      try clear hcz11_2
      try clear hcz19_0
      try clear hcz19_1
      try clear hcz19_2
      try clear hcz23_0
      try clear hcz23_1
      try clear hcz23_2
      try clear hcz8_0
      try clear hcz8_1
      try clear hcz8_2
      try clear hfz10_0
      try clear hfz10_1
      try clear hfz10_2
      try clear hfz11_0
      try clear hfz11_1
      try clear hfz11_2
      try clear hfz19_0
      try clear hfz19_1
      try clear hfz19_2
      try clear hfz23_0
      try clear hfz23_1
      try clear hfz23_2
      try clear hfz8_0
      try clear hfz8_1
      try clear hfz8_2
      try clear p2
      obtain ⟨kq, x49_17, rfl, HA, HJ17, BK101, HB⟩ := hcut
      cases kq with
      | zero => exact absurd HA.out (by simp [peaveylaw01_MarkTold.j1])
      | succ kj17 =>
       have H := HA.out
       clear HA
       simp only [peaveylaw01_MarkTold.j1] at H
       by_cases c24 : x49_17 = true
       ·
        subst c24
        have H1 : (some false) = some r := by rw [if_pos rfl] at H; exact H
        clear H
        have H := H1
        clear H1
        obtain rfl := Option.some.inj H
        go_wp2
        go_ret
        exact ⟨by first | rfl | (simp [errW_none, errW_some] <;> rfl) | (simp [*, errW_none, errW_some] <;> rfl), by repeat (first | (with_reducible first | exact HB.out | apply below_alloc | apply pw_below_drewN | apply below_drew1 | refine below_set ?_ GE101.out) | exact HB.out)⟩
       ·
        replace c24 := Bool.eq_false_iff.mpr c24
        subst c24
        have H1 : (if 0 ≤ (Int.tmod (wrap64 (a1)) (l0_2.length : Int)) then (if (Int.tmod (wrap64 (a1)) (l0_2.length : Int)) < (l0_2.length : Int) then ((mark_Owners.f a0_0 a0_1 l0_2 (Go.bits .andNot .i64 (rd l0_2 (Int.tmod (wrap64 (a1)) (l0_2.length : Int))) (wrap64 (a2)))).bind fun bt107 => (if bt107.2 = 0 then (if t104 ≥ 0 then ((peaveyref01_CanBe.f kj17 (Go.bits .andNot .i64 (rd l0_2 (Int.tmod (wrap64 (a1)) (l0_2.length : Int))) (wrap64 (a2))) (rd l0_2 (Int.tmod (wrap64 (a1)) (l0_2.length : Int))) t104).bind fun t112 => (if t112 = true then ((peaveylaw01_Ints.f kj17 bt107.1 (([(Int.tmod (wrap64 (a1)) (l0_2.length : Int))] : List Int))).bind fun t116 => (peaveylaw01_MarkTold.j2 kj17 (Int.tmod (wrap64 (a1)) (l0_2.length : Int)) t104 (!t116) a0_0 a0_1 l0_2)) else (peaveylaw01_MarkTold.j2 kj17 (Int.tmod (wrap64 (a1)) (l0_2.length : Int)) t104 false a0_0 a0_1 l0_2))) else (peaveylaw01_MarkTold.j2 kj17 (Int.tmod (wrap64 (a1)) (l0_2.length : Int)) t104 false a0_0 a0_1 l0_2)) else (peaveylaw01_MarkTold.j2 kj17 (Int.tmod (wrap64 (a1)) (l0_2.length : Int)) t104 true a0_0 a0_1 l0_2))) else (none)) else (none)) = some r := by rw [if_neg (show ¬ (false = true) by decide)] at H; exact H
        clear H
        have H := H1
        clear H1
        obtain ⟨ji25, hji25⟩ : ∃ j_ : Int, (Int.tmod (wrap64 (a1)) (l0_2.length : Int)) = j_ := ⟨_, rfl⟩
        replace H : (if 0 ≤ (ji25) then (if (ji25) < (l0_2.length : Int) then ((mark_Owners.f a0_0 a0_1 l0_2 (Go.bits .andNot .i64 (rd l0_2 (ji25)) (wrap64 (a2)))).bind fun bt107 => (if bt107.2 = 0 then (if t104 ≥ 0 then ((peaveyref01_CanBe.f kj17 (Go.bits .andNot .i64 (rd l0_2 (ji25)) (wrap64 (a2))) (rd l0_2 (ji25)) t104).bind fun t112 => (if t112 = true then ((peaveylaw01_Ints.f kj17 bt107.1 (([(ji25)] : List Int))).bind fun t116 => (peaveylaw01_MarkTold.j2 kj17 (ji25) t104 (!t116) a0_0 a0_1 l0_2)) else (peaveylaw01_MarkTold.j2 kj17 (ji25) t104 false a0_0 a0_1 l0_2))) else (peaveylaw01_MarkTold.j2 kj17 (ji25) t104 false a0_0 a0_1 l0_2)) else (peaveylaw01_MarkTold.j2 kj17 (ji25) t104 true a0_0 a0_1 l0_2))) else (none)) else (none)) = some r := by first | (rw [hji25] at H; exact H) | (simp only [hji25] at H ⊢; exact H)
        by_cases c26 : 0 ≤ (ji25)
        ·
         rw [if_pos c26] at H
         have c26b0 : decide (0 ≤ (ji25)) = true := decide_eq_true c26
         clear c26
         by_cases c27 : (ji25) < (l0_2.length : Int)
         ·
          rw [if_pos c27] at H
          have c27b0 : decide ((ji25) < (l0_2.length : Int)) = true := decide_eq_true c27
          clear c27
          replace H := Option.bind_eq_some_iff.mp H
          obtain ⟨⟨t107, t110⟩, A280, H⟩ := H
          replace H : (if t110 = 0 then (if t104 ≥ 0 then ((peaveyref01_CanBe.f kj17 (Go.bits .andNot .i64 (rd l0_2 (ji25)) (wrap64 (a2))) (rd l0_2 (ji25)) t104).bind fun t112 => (if t112 = true then ((peaveylaw01_Ints.f kj17 t107 (([(ji25)] : List Int))).bind fun t116 => (peaveylaw01_MarkTold.j2 kj17 (ji25) t104 (!t116) a0_0 a0_1 l0_2)) else (peaveylaw01_MarkTold.j2 kj17 (ji25) t104 false a0_0 a0_1 l0_2))) else (peaveylaw01_MarkTold.j2 kj17 (ji25) t104 false a0_0 a0_1 l0_2)) else (peaveylaw01_MarkTold.j2 kj17 (ji25) t104 true a0_0 a0_1 l0_2)) = some r := H
          have A28 := Aside0.mk A280
          clear A280
          have HC29 := Aside0.mk H
          clear H
          have hcz30_0 : wc.cell? ⟨gb101, 0, none⟩ = some (.int .i64 a0_0) := (blk_cell BK101.out 0).trans rfl
          have hcz30_1 : wc.cell? ⟨gb101, 1, none⟩ = some (.int .i64 a0_1) := (blk_cell BK101.out 1).trans rfl
          have hcz30_2 : wc.cell? ⟨gb101, 2, none⟩ = some (.slice A0_2 l0_2.length c0_2) := (blk_cell BK101.out 2).trans rfl
          have hfz30_0 := blk_frozen BK101.out 0
          have hfz30_1 := blk_frozen BK101.out 1
          have hfz30_2 := blk_frozen BK101.out 2
          have p106 : 0 ≤ ((ji25) : Int) := of_decide_eq_true (by first | (with_reducible assumption) | assumption)
          have q106 : (ji25) < (l0_2.length : Int) := of_decide_eq_true (by first | (with_reducible assumption) | assumption)
          obtain ⟨ad106, e106, hx106_0⟩ := Kd.at_int HR0_2.out (ji25) p106 q106
          cases e106
          replace hx106_0 := (HB.out.cell (World.block_lt_of_cell? w _ hx106_0)).trans hx106_0
          replace p106 := eq_true p106
          replace q106 := eq_true q106
          go_upto_region 9 with (first | ((with_reducible refine gate_callee (f := 19) rfl ?_); refine goesL_ (some 61) rfl rfl Try.func19 (by kernel_rfl) rfl #[.agg #[.int .i64 a0_0, .int .i64 a0_1, .slice (some ad106) l0_2.length c0_2], .int .i64 (Go.bits .andNot .i64 (rd l0_2 (ji25)) (wrap64 (a2)))] rfl (by (try simp only [List.map_toArray, List.map_cons, List.map_nil]); first | done | (simp only [hji25]; rfl) | rfl | (simp only [List.length_drop, List.length_take]; rfl)) ?_; (with_reducible refine (mark_Owners.calls a0_0 a0_1 _ _ l0_2 (Go.bits .andNot .i64 (rd l0_2 (ji25)) (wrap64 (a2))) t107 t110 _ ?side1 ?side2 A28.out).mono ?_); (case side1 => repeat (first | exact (Kd.C_below HR0_2.out HB.out) | (with_reducible refine Kd.C_alloc ?_ _) | (with_reducible refine Kd.C_drewN ?_ _) | (with_reducible refine Kd.C_drew ?_))); (case side2 => exact HC0_2.out); rintro e w31 ⟨v108, rfl, ho0, hb⟩; refine ⟨_, rfl, ?_⟩; have n0_ := Aside0.mk (Kd.R_lower ho0 (below_size (by repeat (first | (with_reducible first | exact HB.out | apply below_alloc | apply pw_below_drewN | apply below_drew1 | refine below_set ?_ GE101.out) | exact HB.out)))); have n1_ := Aside0.mk (blk_below (g := gb101) (o := .cells #[.int .i64 a0_0, .int .i64 a0_1, .slice (some ad106) l0_2.length c0_2] 24 (0, 0)) (by (with_reducible repeat (first | refine blk_drewN ?_ _ | refine blk_drew ?_ | refine blk_alloc ?_ _)); exact BK101.out) hb); have n2_ := Aside0.mk (below_step (by repeat (first | (with_reducible first | exact HB.out | apply below_alloc | apply pw_below_drewN | apply below_drew1 | refine below_set ?_ GE101.out) | exact HB.out)) hb); clear BK101; clear HB; have HO109 := n0_; have BK101 := n1_; have HB := n2_; clear n0_ n1_ n2_; (try clear hb); (try clear hb2); (try clear hk); (try clear hi); (try clear ho0)))
          (try simp only [Act.put, List.setIfInBounds_toArray, List.set_cons_zero, List.set_cons_succ])
          go_cut [86] (fun v86 wc => ∃ (kq : Nat) (x86_28 : Bool), v86 = .bool x86_28 ∧ Aside0 (peaveylaw01_MarkTold.j2 kq (ji25) t104 x86_28 a0_0 a0_1 l0_2 = some r) ∧ Aside0 (kq ≤ kj17) ∧ Aside0 (wc.heap[gb101]? = some (.cells #[.int .i64 a0_0, .int .i64 a0_1, (.slice (some ad106) l0_2.length c0_2)] 24 (0, 0))) ∧ Aside0 (Below w.heap.size w wc))
          case first =>
           have H := HC29.out
           clear HC29
           by_cases c32 : t110 = 0
           ·
            rw [if_pos c32] at H
            have c32b0 : (t110 == 0) = true := beq_iff_eq.mpr c32
            have c32b1 : (t110 != 0) = false := bne_eq_false_iff_eq.mpr c32
            clear c32
            (first | rw [c32b0] | (simp only [i64_w, i32_w]; rw [c32b0]) | skip)
            by_cases c33 : t104 ≥ 0
            ·
             rw [if_pos c33] at H
             have c33b0 : decide (0 ≤ t104) = true := decide_eq_true c33
             clear c33
             replace H := Option.bind_eq_some_iff.mp H
             obtain ⟨t112, A340, H⟩ := H
             replace H : (if t112 = true then ((peaveylaw01_Ints.f kj17 t107 (([(ji25)] : List Int))).bind fun t116 => (peaveylaw01_MarkTold.j2 kj17 (ji25) t104 (!t116) a0_0 a0_1 l0_2)) else (peaveylaw01_MarkTold.j2 kj17 (ji25) t104 false a0_0 a0_1 l0_2)) = some r := H
             have A34 := Aside0.mk A340
             clear A340
             by_cases c35 : t112 = true
             ·
              subst c35
              have H1 : ((peaveylaw01_Ints.f kj17 t107 (([(ji25)] : List Int))).bind fun t116 => (peaveylaw01_MarkTold.j2 kj17 (ji25) t104 (!t116) a0_0 a0_1 l0_2)) = some r := by rw [if_pos rfl] at H; exact H
              clear H
              have H := H1
              clear H1
              obtain ⟨y113, hy113⟩ : ∃ y_ : List Int, y_ = (([(ji25)] : List Int)) := ⟨_, rfl⟩
              replace H : ((peaveylaw01_Ints.f kj17 t107 y113).bind fun t116 => (peaveylaw01_MarkTold.j2 kj17 (ji25) t104 (!t116) a0_0 a0_1 l0_2)) = some r := by first | (rw [hy113]; with_reducible exact H) | (have H2_ := (Option.bind_some _ _).symm.trans H; rw [hy113]; with_reducible exact H2_) | (have H2_ := (Option.bind_some _ _).symm.trans H; with_reducible exact H2_) | with_reducible exact H | (rw [hy113]; exact H) | exact H
              have Ny113 := Aside0.mk hy113
              clear hy113
              replace H := Option.bind_eq_some_iff.mp H
              obtain ⟨t116, A360, H⟩ := H
              replace H : (peaveylaw01_MarkTold.j2 kj17 (ji25) t104 (!t116) a0_0 a0_1 l0_2) = some r := H
              have A36 := Aside0.mk A360
              clear A360
              have H' := Aside0.mk H
              clear H
              have hcz37_0 : w31.cell? ⟨gb101, 0, none⟩ = some (.int .i64 a0_0) := (blk_cell BK101.out 0).trans rfl
              have hcz37_1 : w31.cell? ⟨gb101, 1, none⟩ = some (.int .i64 a0_1) := (blk_cell BK101.out 1).trans rfl
              have hcz37_2 : w31.cell? ⟨gb101, 2, none⟩ = some (.slice (some ad106) l0_2.length c0_2) := (blk_cell BK101.out 2).trans rfl
              have hfz37_0 := blk_frozen BK101.out 0
              have hfz37_1 := blk_frozen BK101.out 1
              have hfz37_2 := blk_frozen BK101.out 2
              have p111 : 0 ≤ ((ji25) : Int) := of_decide_eq_true (by first | (with_reducible assumption) | assumption)
              have q111 : (ji25) < (l0_2.length : Int) := of_decide_eq_true (by first | (with_reducible assumption) | assumption)
              obtain ⟨ad111, e111, hx111_0⟩ := Kd.at_int HR0_2.out (ji25) p111 q111
              obtain rfl : ad106 = ad111 := (by injection e111)
              replace hx111_0 := (HB.out.cell (World.block_lt_of_cell? w _ hx111_0)).trans hx111_0
              replace p111 := eq_true p111
              replace q111 := eq_true q111
              go_wp2_with (first | (go_at_call 42; (with_reducible refine (peaveyref01_CanBe.calls kj17 (Go.bits .andNot .i64 (rd l0_2 (ji25)) (wrap64 (a2))) (rd l0_2 (ji25)) t104 true _ A34.out).mono ?_); rintro e w' ⟨rfl, ⟨nd, rfl⟩⟩) | ((with_reducible refine gate_dst (N := 82) rfl ?_); (try (refine gate_guard (by rfl) ?_; dsimp only)); refine Kd.R_lit (Kd.int .i64) _ 3 ?hg (N := 82) ?hd (xs := ([(ji25)] : List Int)) (inner := [.int .i64 (ji25)]) (ok := fun _ => True) (okp := fun _ => True) ?hr ?hp (fun _ hk => hk) trivial (Below.refl _ _) (Nat.le_refl _) (by simp) ?_; (case hd => rfl); (case hg => rfl); (case hr => first | (go_simp; done) | (go_simp; rfl)); (case hp => exact (Reps.one (show Kd.M (Kd.int .i64) _ _ _ (ji25) [.int .i64 (ji25)] from rfl) (Reps.none _ _))); intro v114 w38 ho39 hb hg_ hnew_; clear hg_ hnew_; (first | rw [← Ny113.out] at ho39 | (simp only [Int.reduceToNat] at ho39; rw [← Ny113.out] at ho39)); have n0_ := Aside0.mk (Kd.R_elder' (by (with_reducible repeat (first | apply Kd.R_alloc | apply Kd.R_drewN | apply Kd.R_drew)); exact HO109.out) (Kd.R_base ho39) hb); have n1_ := Aside0.mk (Kd.R_lower (Kd.R_new' ho39 (Kd.R_lt (by (with_reducible repeat (first | apply Kd.R_alloc | apply Kd.R_drewN | apply Kd.R_drew)); exact HO109.out))) (below_size (by repeat (first | (with_reducible first | exact HB.out | apply below_alloc | apply pw_below_drewN | apply below_drew1 | refine below_set ?_ GE101.out) | exact HB.out)))); have n2_ := Aside0.mk (blk_below (g := gb101) (o := .cells #[.int .i64 a0_0, .int .i64 a0_1, .slice (some ad106) l0_2.length c0_2] 24 (0, 0)) (by (with_reducible repeat (first | refine blk_drewN ?_ _ | refine blk_drew ?_ | refine blk_alloc ?_ _)); exact BK101.out) hb); have n3_ := Aside0.mk (below_step (by repeat (first | (with_reducible first | exact HB.out | apply below_alloc | apply pw_below_drewN | apply below_drew1 | refine below_set ?_ GE101.out) | exact HB.out)) hb); clear HO109; clear BK101; clear HB; have HO109 := n0_; have HO115 := n1_; have BK101 := n2_; have HB := n3_; clear n0_ n1_ n2_ n3_; clear hb ho39; obtain ⟨Ao40, co40, eo40⟩ := Kd.R_slice HO109.out; subst eo40; obtain ⟨Ao41, co41, eo41⟩ := Kd.R_slice HO115.out; subst eo41) | (go_at_call 23; (with_reducible refine (peaveylaw01_Ints.calls kj17 _ _ t107 _ _ y113 t116 _ ?side1 ?side2 ?side3 ?side4 A36.out).mono ?_); (case side1 => repeat (first | exact (Kd.R_reads' HO109.out).2.2 | (with_reducible refine Kd.C_alloc ?_ _) | (with_reducible refine Kd.C_drewN ?_ _) | (with_reducible refine Kd.C_drew ?_))); (case side2 => exact (Kd.R_reads' HO109.out).2.1); (case side3 => repeat (first | exact (Kd.R_reads' HO115.out).2.2 | (with_reducible refine Kd.C_alloc ?_ _) | (with_reducible refine Kd.C_drewN ?_ _) | (with_reducible refine Kd.C_drew ?_))); (case side4 => exact (Kd.R_reads' HO115.out).2.1); rintro e w' ⟨rfl, ⟨nd, rfl⟩⟩))
              go_meet
              case rel => exact ⟨_, (!t116), (by first | rfl | (simp; done) | (simp [*]; done)), H', ⟨by have := HJ3.out; have := HJ17.out; first | omega | exact Nat.le_refl _⟩, ⟨by (with_reducible repeat (first | refine blk_drewN ?_ _ | refine blk_drew ?_ | refine blk_alloc ?_ _)); exact BK101.out⟩, ⟨by repeat (first | (with_reducible first | exact HB.out | apply below_alloc | apply pw_below_drewN | apply below_drew1 | refine below_set ?_ GE101.out) | exact HB.out)⟩⟩
             ·
              replace c35 := Bool.eq_false_iff.mpr c35
              subst c35
              have H1 : (peaveylaw01_MarkTold.j2 kj17 (ji25) t104 false a0_0 a0_1 l0_2) = some r := by rw [if_neg (show ¬ (false = true) by decide)] at H; exact H
              clear H
              have H := H1
              clear H1
              have H' := Aside0.mk H
              clear H
              have hcz42_0 : w31.cell? ⟨gb101, 0, none⟩ = some (.int .i64 a0_0) := (blk_cell BK101.out 0).trans rfl
              have hcz42_1 : w31.cell? ⟨gb101, 1, none⟩ = some (.int .i64 a0_1) := (blk_cell BK101.out 1).trans rfl
              have hcz42_2 : w31.cell? ⟨gb101, 2, none⟩ = some (.slice (some ad106) l0_2.length c0_2) := (blk_cell BK101.out 2).trans rfl
              have hfz42_0 := blk_frozen BK101.out 0
              have hfz42_1 := blk_frozen BK101.out 1
              have hfz42_2 := blk_frozen BK101.out 2
              have p111 : 0 ≤ ((ji25) : Int) := of_decide_eq_true (by first | (with_reducible assumption) | assumption)
              have q111 : (ji25) < (l0_2.length : Int) := of_decide_eq_true (by first | (with_reducible assumption) | assumption)
              obtain ⟨ad111, e111, hx111_0⟩ := Kd.at_int HR0_2.out (ji25) p111 q111
              obtain rfl : ad106 = ad111 := (by injection e111)
              replace hx111_0 := (HB.out.cell (World.block_lt_of_cell? w _ hx111_0)).trans hx111_0
              replace p111 := eq_true p111
              replace q111 := eq_true q111
              go_wp2_with (first | (go_at_call 42; (with_reducible refine (peaveyref01_CanBe.calls kj17 (Go.bits .andNot .i64 (rd l0_2 (ji25)) (wrap64 (a2))) (rd l0_2 (ji25)) t104 false _ A34.out).mono ?_); rintro e w' ⟨rfl, ⟨nd, rfl⟩⟩))
              go_meet
              case rel => exact ⟨_, (false), (by first | rfl | (simp; done) | (simp [*]; done)), H', ⟨by have := HJ3.out; have := HJ17.out; first | omega | exact Nat.le_refl _⟩, ⟨by (with_reducible repeat (first | refine blk_drewN ?_ _ | refine blk_drew ?_ | refine blk_alloc ?_ _)); exact BK101.out⟩, ⟨by repeat (first | (with_reducible first | exact HB.out | apply below_alloc | apply pw_below_drewN | apply below_drew1 | refine below_set ?_ GE101.out) | exact HB.out)⟩⟩
            ·
             rw [if_neg c33] at H
             have c33b0 : decide (0 ≤ t104) = false := decide_eq_false c33
             clear c33
             have H' := Aside0.mk H
             clear H
             go_wp2
             go_meet
             case rel => exact ⟨_, (false), (by first | rfl | (simp; done) | (simp [*]; done)), H', ⟨by have := HJ3.out; have := HJ17.out; first | omega | exact Nat.le_refl _⟩, ⟨by (with_reducible repeat (first | refine blk_drewN ?_ _ | refine blk_drew ?_ | refine blk_alloc ?_ _)); exact BK101.out⟩, ⟨by repeat (first | (with_reducible first | exact HB.out | apply below_alloc | apply pw_below_drewN | apply below_drew1 | refine below_set ?_ GE101.out) | exact HB.out)⟩⟩
           ·
            rw [if_neg c32] at H
            have c32b0 : (t110 == 0) = false := beq_eq_false_iff_ne.mpr c32
            have c32b1 : (t110 != 0) = true := bne_iff_ne.mpr c32
            (first | rw [c32b0] | (simp only [i64_w, i32_w]; rw [c32b0]) | skip)
            have H' := Aside0.mk H
            clear H
            go_wp2
            go_meet
            case rel => exact ⟨_, (true), (by first | rfl | (simp; done) | (simp [*]; done)), H', ⟨by have := HJ3.out; have := HJ17.out; first | omega | exact Nat.le_refl _⟩, ⟨by (with_reducible repeat (first | refine blk_drewN ?_ _ | refine blk_drew ?_ | refine blk_alloc ?_ _)); exact BK101.out⟩, ⟨by repeat (first | (with_reducible first | exact HB.out | apply below_alloc | apply pw_below_drewN | apply below_drew1 | refine below_set ?_ GE101.out) | exact HB.out)⟩⟩
          case rest =>
           clear HC29
           try clear c1
           try clear p1
           try clear q1
           try clear hx1
           try clear c2
           try clear p2
           try clear c3
           try clear c4
           try clear p6
           try clear c7
           try clear p10
           try clear q10
           try clear hx10
           try clear c11
           try clear p11
           try clear q11
           try clear hx11
           try clear c13
           try clear c16
           try clear c16b0
           try clear c16b1
           try clear c16b2
           try clear c18
           try clear c19
           try clear c21
           try clear c21b0
           try clear c21b1
           try clear c22
           try clear c22b0
           try clear c24
           try clear c26
           try clear c26b0
           try clear c27
           try clear c27b0
           try clear c30
           try clear c32
           try clear c32b0
           try clear c32b1
           try clear c33
           try clear c33b0
           try clear c35
           try clear c41
           try clear hcz10_0
           try clear hcz10_1
           try clear hcz10_2
           try clear hcz11_0
           try clear hcz11_1
           try clear hcz11_2
           try clear hcz19_0
           try clear hcz19_1
           try clear hcz19_2
           try clear hcz23_0
           try clear hcz23_1
           try clear hcz23_2
           try clear hcz30_0
           try clear hcz30_1
           try clear hcz30_2
           try clear hcz37_0
           try clear hcz37_1
           try clear hcz37_2
           try clear hcz42_0
           try clear hcz42_1
           try clear hcz42_2
           try clear hcz8_0
           try clear hcz8_1
           try clear hcz8_2
           try clear hfz10_0
           try clear hfz10_1
           try clear hfz10_2
           try clear hfz11_0
           try clear hfz11_1
           try clear hfz11_2
           try clear hfz19_0
           try clear hfz19_1
           try clear hfz19_2
           try clear hfz23_0
           try clear hfz23_1
           try clear hfz23_2
           try clear hfz30_0
           try clear hfz30_1
           try clear hfz30_2
           try clear hfz37_0
           try clear hfz37_1
           try clear hfz37_2
           try clear hfz42_0
           try clear hfz42_1
           try clear hfz42_2
           try clear hfz8_0
           try clear hfz8_1
           try clear hfz8_2
           try clear hx106_0
           try clear hx111_0
           try clear p106
           try clear p111
           try clear p2
           try clear p6
           try clear q106
           try clear q111
           obtain ⟨kq, x86_28, rfl, HA, HJ28, BK101, HB⟩ := hcut
           cases kq with
           | zero => exact absurd HA.out (by simp [peaveylaw01_MarkTold.j2])
           | succ kj28 =>
            have H := HA.out
            clear HA
            simp only [peaveylaw01_MarkTold.j2] at H
            by_cases c43 : x86_28 = true
            ·
             subst c43
             have H1 : (some false) = some r := by rw [if_pos rfl] at H; exact H
             clear H
             have H := H1
             clear H1
             obtain rfl := Option.some.inj H
             go_wp2
             go_ret
             exact ⟨by first | rfl | (simp [errW_none, errW_some] <;> rfl) | (simp only [← hji25]; first | rfl | (simp [errW_none, errW_some] <;> rfl)) | (simp [*, errW_none, errW_some] <;> rfl), by repeat (first | (with_reducible first | exact HB.out | apply below_alloc | apply pw_below_drewN | apply below_drew1 | refine below_set ?_ GE101.out) | exact HB.out)⟩
            ·
             replace c43 := Bool.eq_false_iff.mpr c43
             subst c43
             have H1 : (if t104 = a0_1 then ((peaveylaw01_Works.f kj28).bind fun t117 => (some t117)) else (peaveylaw01_MarkTold.l0 kj28 (ji25) t104 0 a0_0 a0_1 l0_2)) = some r := by rw [if_neg (show ¬ (false = true) by decide)] at H; exact H
             clear H
             have H := H1
             clear H1
             by_cases c44 : t104 = a0_1
             ·
              rw [if_pos c44] at H
              have c44b0 : (t104 == a0_1) = true := beq_iff_eq.mpr c44
              have c44b1 : (t104 != a0_1) = false := bne_eq_false_iff_eq.mpr c44
              clear c44
              replace H := Option.bind_eq_some_iff.mp H
              obtain ⟨t117, A450, H⟩ := H
              replace H : (some t117) = some r := H
              have A45 := Aside0.mk A450
              clear A450
              obtain rfl := Option.some.inj H
              have hcz46_0 : wc.cell? ⟨gb101, 0, none⟩ = some (.int .i64 a0_0) := (blk_cell BK101.out 0).trans rfl
              have hcz46_1 : wc.cell? ⟨gb101, 1, none⟩ = some (.int .i64 a0_1) := (blk_cell BK101.out 1).trans rfl
              have hcz46_2 : wc.cell? ⟨gb101, 2, none⟩ = some (.slice (some ad106) l0_2.length c0_2) := (blk_cell BK101.out 2).trans rfl
              have hfz46_0 := blk_frozen BK101.out 0
              have hfz46_1 := blk_frozen BK101.out 1
              have hfz46_2 := blk_frozen BK101.out 2
              go_wp2_with (first | ((with_reducible refine gate_callee (f := 18) rfl ?_); refine goesL_ (some 91) rfl rfl Try.func18 (by kernel_rfl) rfl #[] rfl (by (try simp only [List.map_toArray, List.map_cons, List.map_nil]); first | done | rfl | (simp only [List.length_drop, List.length_take]; rfl)) ?_; (with_reducible refine (peaveylaw01_Works.calls kj28  t117 _ A45.out).mono ?_); rintro e w47 ⟨rfl, hb⟩; refine ⟨_, rfl, ?_⟩; have n0_ := Aside0.mk (blk_below (g := gb101) (o := .cells #[.int .i64 a0_0, .int .i64 a0_1, .slice (some ad106) l0_2.length c0_2] 24 (0, 0)) (by (with_reducible repeat (first | refine blk_drewN ?_ _ | refine blk_drew ?_ | refine blk_alloc ?_ _)); exact BK101.out) hb); have n1_ := Aside0.mk (below_step (by repeat (first | (with_reducible first | exact HB.out | apply below_alloc | apply pw_below_drewN | apply below_drew1 | refine below_set ?_ GE101.out) | exact HB.out)) hb); clear BK101; clear HB; have BK101 := n0_; have HB := n1_; clear n0_ n1_; (try clear hb); (try clear hb2); (try clear hk); (try clear hi)))
              go_ret
              exact ⟨by first | rfl | (simp [errW_none, errW_some] <;> rfl) | (simp only [← hji25]; first | rfl | (simp [errW_none, errW_some] <;> rfl)) | (simp [*, errW_none, errW_some] <;> rfl), by repeat (first | (with_reducible first | exact HB.out | apply below_alloc | apply pw_below_drewN | apply below_drew1 | refine below_set ?_ GE101.out) | exact HB.out)⟩
             ·
              rw [if_neg c44] at H
              have c44b0 : (t104 == a0_1) = false := beq_eq_false_iff_ne.mpr c44
              have c44b1 : (t104 != a0_1) = true := bne_iff_ne.mpr c44
              have H' := Aside0.mk H
              clear H
              have hcz48_0 : wc.cell? ⟨gb101, 0, none⟩ = some (.int .i64 a0_0) := (blk_cell BK101.out 0).trans rfl
              have hcz48_1 : wc.cell? ⟨gb101, 1, none⟩ = some (.int .i64 a0_1) := (blk_cell BK101.out 1).trans rfl
              have hcz48_2 : wc.cell? ⟨gb101, 2, none⟩ = some (.slice (some ad106) l0_2.length c0_2) := (blk_cell BK101.out 2).trans rfl
              have hfz48_0 := blk_frozen BK101.out 0
              have hfz48_1 := blk_frozen BK101.out 1
              have hfz48_2 := blk_frozen BK101.out 2
              go_wp2
              go_loopg [13] kj28 (fun kq v13 w' => ∃ (x13_4 : Int), v13 = .int .i64 x13_4 ∧ Aside0 (peaveylaw01_MarkTold.l0 kq (ji25) t104 x13_4 a0_0 a0_1 l0_2 = some r) ∧ Aside0 (kq ≤ kj28) ∧ Aside0 (w'.heap[gb101]? = some (.cells #[.int .i64 a0_0, .int .i64 a0_1, (.slice (some ad106) l0_2.length c0_2)] 24 (0, 0))) ∧ Aside0 (Below w.heap.size w w'))
              case atStart => exact ⟨(0), (by first | rfl | (simp; done) | (simp [*]; done)), H', ⟨Nat.le_refl _⟩, ⟨by (with_reducible repeat (first | refine blk_drewN ?_ _ | refine blk_drew ?_ | refine blk_alloc ?_ _)); exact BK101.out⟩, ⟨by repeat (first | (with_reducible first | exact HB.out | apply below_alloc | apply pw_below_drewN | apply below_drew1 | refine below_set ?_ GE101.out) | exact HB.out)⟩⟩
              case round =>
               clear H'
               try clear c1
               try clear p1
               try clear q1
               try clear hx1
               try clear c2
               try clear p2
               try clear c3
               try clear c4
               try clear p6
               try clear c7
               try clear p10
               try clear q10
               try clear hx10
               try clear c11
               try clear p11
               try clear q11
               try clear hx11
               try clear c13
               try clear c16
               try clear c16b0
               try clear c16b1
               try clear c16b2
               try clear c18
               try clear c19
               try clear c21
               try clear c21b0
               try clear c21b1
               try clear c22
               try clear c22b0
               try clear c24
               try clear c26
               try clear c26b0
               try clear c27
               try clear c27b0
               try clear c30
               try clear c32
               try clear c32b0
               try clear c32b1
               try clear c33
               try clear c33b0
               try clear c35
               try clear c41
               try clear c43
               try clear c44
               try clear c44b0
               try clear c44b1
               try clear hcz10_0
               try clear hcz10_1
               try clear hcz10_2
               try clear hcz11_0
               try clear hcz11_1
               try clear hcz11_2
               try clear hcz19_0
               try clear hcz19_1
               try clear hcz19_2
               try clear hcz23_0
               try clear hcz23_1
               try clear hcz23_2
               try clear hcz30_0
               try clear hcz30_1
               try clear hcz30_2
               try clear hcz37_0
               try clear hcz37_1
               try clear hcz37_2
               try clear hcz42_0
               try clear hcz42_1
               try clear hcz42_2
               try clear hcz46_0
               try clear hcz46_1
               try clear hcz46_2
               try clear hcz48_0
               try clear hcz48_1
               try clear hcz48_2
               try clear hcz8_0
               try clear hcz8_1
               try clear hcz8_2
               try clear hfz10_0
               try clear hfz10_1
               try clear hfz10_2
               try clear hfz11_0
               try clear hfz11_1
               try clear hfz11_2
               try clear hfz19_0
               try clear hfz19_1
               try clear hfz19_2
               try clear hfz23_0
               try clear hfz23_1
               try clear hfz23_2
               try clear hfz30_0
               try clear hfz30_1
               try clear hfz30_2
               try clear hfz37_0
               try clear hfz37_1
               try clear hfz37_2
               try clear hfz42_0
               try clear hfz42_1
               try clear hfz42_2
               try clear hfz46_0
               try clear hfz46_1
               try clear hfz46_2
               try clear hfz48_0
               try clear hfz48_1
               try clear hfz48_2
               try clear hfz8_0
               try clear hfz8_1
               try clear hfz8_2
               try clear hx106_0
               try clear hx111_0
               try clear p1
               try clear p10
               try clear p106
               try clear p11
               try clear p111
               try clear p2
               try clear p6
               try clear q1
               try clear q10
               try clear q106
               try clear q11
               try clear q111
               obtain ⟨x13_4, rfl, HA, HK4, BK101, HB⟩ := hrel
               cases gk with
               | zero => exact absurd HA.out (by simp [peaveylaw01_MarkTold.l0])
               | succ k4 =>
                have H := HA.out
                clear HA
                simp only [peaveylaw01_MarkTold.l0] at H
                by_cases c49 : 0 ≤ (ji25)
                ·
                 rw [if_pos c49] at H
                 have c49b0 : decide (0 ≤ (ji25)) = true := decide_eq_true c49
                 clear c49
                 by_cases c50 : (ji25) < (l0_2.length : Int)
                 ·
                  rw [if_pos c50] at H
                  have c50b0 : decide ((ji25) < (l0_2.length : Int)) = true := decide_eq_true c50
                  clear c50
                  by_cases c51 : x13_4 ≤ (rd l0_2 (ji25))
                  ·
                   rw [if_pos c51] at H
                   have c51b0 : decide (x13_4 ≤ (rd l0_2 (ji25))) = true := decide_eq_true c51
                   clear c51
                   have HC52 := Aside0.mk H
                   clear H
                   have hcz53_0 : wr.cell? ⟨gb101, 0, none⟩ = some (.int .i64 a0_0) := (blk_cell BK101.out 0).trans rfl
                   have hcz53_1 : wr.cell? ⟨gb101, 1, none⟩ = some (.int .i64 a0_1) := (blk_cell BK101.out 1).trans rfl
                   have hcz53_2 : wr.cell? ⟨gb101, 2, none⟩ = some (.slice (some ad106) l0_2.length c0_2) := (blk_cell BK101.out 2).trans rfl
                   have hfz53_0 := blk_frozen BK101.out 0
                   have hfz53_1 := blk_frozen BK101.out 1
                   have hfz53_2 := blk_frozen BK101.out 2
                   have p118 : 0 ≤ ((ji25) : Int) := of_decide_eq_true (by first | (with_reducible assumption) | assumption)
                   have q118 : (ji25) < (l0_2.length : Int) := of_decide_eq_true (by first | (with_reducible assumption) | assumption)
                   obtain ⟨ad118, e118, hx118_0⟩ := Kd.at_int HR0_2.out (ji25) p118 q118
                   obtain rfl : ad106 = ad118 := (by injection e118)
                   replace hx118_0 := (HB.out.cell (World.block_lt_of_cell? w _ hx118_0)).trans hx118_0
                   replace p118 := eq_true p118
                   replace q118 := eq_true q118
                   go_upto_region 16 with (fail)
                   go_cut [116] (fun v116 wc => ∃ (kq : Nat) (x116_51 : Bool), v116 = .bool x116_51 ∧ Aside0 (peaveylaw01_MarkTold.j4 kq (ji25) t104 x13_4 x116_51 a0_0 a0_1 l0_2 = some r) ∧ Aside0 (kq ≤ k4) ∧ Aside0 (wc.heap[gb101]? = some (.cells #[.int .i64 a0_0, .int .i64 a0_1, (.slice (some ad106) l0_2.length c0_2)] 24 (0, 0))) ∧ Aside0 (Below w.heap.size w wc))
                   case first =>
                    have H := HC52.out
                    clear HC52
                    replace H := Option.bind_eq_some_iff.mp H
                    obtain ⟨t120, A540, H⟩ := H
                    replace H : (if t120 = true then ((peaveyref01_OwnersOf.f k4 a0_0 a0_1 l0_2 x13_4).bind fun t121 => (peaveylaw01_MarkTold.j4 k4 (ji25) t104 x13_4 (decide ((t121.length : Int) > 1)) a0_0 a0_1 l0_2)) else (peaveylaw01_MarkTold.j4 k4 (ji25) t104 x13_4 false a0_0 a0_1 l0_2)) = some r := H
                    have A54 := Aside0.mk A540
                    clear A540
                    by_cases c55 : t120 = true
                    ·
                     subst c55
                     have H1 : ((peaveyref01_OwnersOf.f k4 a0_0 a0_1 l0_2 x13_4).bind fun t121 => (peaveylaw01_MarkTold.j4 k4 (ji25) t104 x13_4 (decide ((t121.length : Int) > 1)) a0_0 a0_1 l0_2)) = some r := by rw [if_pos rfl] at H; exact H
                     clear H
                     have H := H1
                     clear H1
                     replace H := Option.bind_eq_some_iff.mp H
                     obtain ⟨t121, A560, H⟩ := H
                     replace H : (peaveylaw01_MarkTold.j4 k4 (ji25) t104 x13_4 (decide ((t121.length : Int) > 1)) a0_0 a0_1 l0_2) = some r := H
                     have A56 := Aside0.mk A560
                     clear A560
                     have H' := Aside0.mk H
                     clear H
                     have hcz57_0 : wr.cell? ⟨gb101, 0, none⟩ = some (.int .i64 a0_0) := (blk_cell BK101.out 0).trans rfl
                     have hcz57_1 : wr.cell? ⟨gb101, 1, none⟩ = some (.int .i64 a0_1) := (blk_cell BK101.out 1).trans rfl
                     have hcz57_2 : wr.cell? ⟨gb101, 2, none⟩ = some (.slice (some ad106) l0_2.length c0_2) := (blk_cell BK101.out 2).trans rfl
                     have hfz57_0 := blk_frozen BK101.out 0
                     have hfz57_1 := blk_frozen BK101.out 1
                     have hfz57_2 := blk_frozen BK101.out 2
                     have p119 : 0 ≤ ((ji25) : Int) := of_decide_eq_true (by first | (with_reducible assumption) | assumption)
                     have q119 : (ji25) < (l0_2.length : Int) := of_decide_eq_true (by first | (with_reducible assumption) | assumption)
                     obtain ⟨ad119, e119, hx119_0⟩ := Kd.at_int HR0_2.out (ji25) p119 q119
                     obtain rfl : ad106 = ad119 := (by injection e119)
                     replace hx119_0 := (HB.out.cell (World.block_lt_of_cell? w _ hx119_0)).trans hx119_0
                     replace p119 := eq_true p119
                     replace q119 := eq_true q119
                     go_wp2_with (first | ((with_reducible refine gate_callee (f := 42) rfl ?_); refine goesL_ (some 109) rfl rfl Try.func42 (by kernel_rfl) rfl #[.int .i64 x13_4, .int .i64 (rd l0_2 (ji25)), .int .i64 (wrap64 (t104 + 1))] rfl (by (try simp only [List.map_toArray, List.map_cons, List.map_nil]); first | done | (simp only [hji25]; rfl) | rfl | (simp only [List.length_drop, List.length_take]; rfl)) ?_; (with_reducible refine (peaveyref01_CanBe.calls k4 x13_4 (rd l0_2 (ji25)) (wrap64 (t104 + 1)) true _ A54.out).mono ?_); rintro e w' ⟨rfl, ⟨nd, rfl⟩⟩; refine ⟨_, rfl, ?_⟩) | (go_at_call 45; (with_reducible refine (peaveyref01_OwnersOf.calls k4 a0_0 a0_1 _ _ l0_2 x13_4 t121 _ ?side1 ?side2 A56.out).mono ?_); (case side1 => repeat (first | exact (Kd.C_below HR0_2.out (by repeat (first | (with_reducible first | exact HB.out | apply below_alloc | apply pw_below_drewN | apply below_drew1 | refine below_set ?_ GE101.out) | exact HB.out))) | (with_reducible refine Kd.C_alloc ?_ _) | (with_reducible refine Kd.C_drewN ?_ _) | (with_reducible refine Kd.C_drew ?_))); (case side2 => exact HC0_2.out); rintro e w58 ⟨v122, rfl, ho0, hb⟩; have n0_ := Aside0.mk (Kd.R_lower ho0 (below_size (by repeat (first | (with_reducible first | exact HB.out | apply below_alloc | apply pw_below_drewN | apply below_drew1 | refine below_set ?_ GE101.out) | exact HB.out)))); have n1_ := Aside0.mk (blk_below (g := gb101) (o := .cells #[.int .i64 a0_0, .int .i64 a0_1, .slice (some ad106) l0_2.length c0_2] 24 (0, 0)) (by (with_reducible repeat (first | refine blk_drewN ?_ _ | refine blk_drew ?_ | refine blk_alloc ?_ _)); exact BK101.out) hb); have n2_ := Aside0.mk (below_step (by repeat (first | (with_reducible first | exact HB.out | apply below_alloc | apply pw_below_drewN | apply below_drew1 | refine below_set ?_ GE101.out) | exact HB.out)) hb); clear BK101; clear HB; have HO123 := n0_; have BK101 := n1_; have HB := n2_; clear n0_ n1_ n2_; (try clear hb); (try clear hb2); (try clear hk); (try clear hi); (try clear ho0); obtain ⟨Ao59, co59, eo59⟩ := Kd.R_slice HO123.out; subst eo59))
                     go_meet
                     case rel => exact ⟨_, (decide ((t121.length : Int) > 1)), (by first | rfl | (simp; done) | (simp [*]; done)), H', ⟨by have := HJ3.out; have := HJ17.out; have := HJ28.out; have := HK4.out; first | omega | exact Nat.le_refl _⟩, ⟨by (with_reducible repeat (first | refine blk_drewN ?_ _ | refine blk_drew ?_ | refine blk_alloc ?_ _)); exact BK101.out⟩, ⟨by repeat (first | (with_reducible first | exact HB.out | apply below_alloc | apply pw_below_drewN | apply below_drew1 | refine below_set ?_ GE101.out) | exact HB.out)⟩⟩
                    ·
                     replace c55 := Bool.eq_false_iff.mpr c55
                     subst c55
                     have H1 : (peaveylaw01_MarkTold.j4 k4 (ji25) t104 x13_4 false a0_0 a0_1 l0_2) = some r := by rw [if_neg (show ¬ (false = true) by decide)] at H; exact H
                     clear H
                     have H := H1
                     clear H1
                     have H' := Aside0.mk H
                     clear H
                     have hcz60_0 : wr.cell? ⟨gb101, 0, none⟩ = some (.int .i64 a0_0) := (blk_cell BK101.out 0).trans rfl
                     have hcz60_1 : wr.cell? ⟨gb101, 1, none⟩ = some (.int .i64 a0_1) := (blk_cell BK101.out 1).trans rfl
                     have hcz60_2 : wr.cell? ⟨gb101, 2, none⟩ = some (.slice (some ad106) l0_2.length c0_2) := (blk_cell BK101.out 2).trans rfl
                     have hfz60_0 := blk_frozen BK101.out 0
                     have hfz60_1 := blk_frozen BK101.out 1
                     have hfz60_2 := blk_frozen BK101.out 2
                     have p119 : 0 ≤ ((ji25) : Int) := of_decide_eq_true (by first | (with_reducible assumption) | assumption)
                     have q119 : (ji25) < (l0_2.length : Int) := of_decide_eq_true (by first | (with_reducible assumption) | assumption)
                     obtain ⟨ad119, e119, hx119_0⟩ := Kd.at_int HR0_2.out (ji25) p119 q119
                     obtain rfl : ad106 = ad119 := (by injection e119)
                     replace hx119_0 := (HB.out.cell (World.block_lt_of_cell? w _ hx119_0)).trans hx119_0
                     replace p119 := eq_true p119
                     replace q119 := eq_true q119
                     go_wp2_with (first | ((with_reducible refine gate_callee (f := 42) rfl ?_); refine goesL_ (some 109) rfl rfl Try.func42 (by kernel_rfl) rfl #[.int .i64 x13_4, .int .i64 (rd l0_2 (ji25)), .int .i64 (wrap64 (t104 + 1))] rfl (by (try simp only [List.map_toArray, List.map_cons, List.map_nil]); first | done | (simp only [hji25]; rfl) | rfl | (simp only [List.length_drop, List.length_take]; rfl)) ?_; (with_reducible refine (peaveyref01_CanBe.calls k4 x13_4 (rd l0_2 (ji25)) (wrap64 (t104 + 1)) false _ A54.out).mono ?_); rintro e w' ⟨rfl, ⟨nd, rfl⟩⟩; refine ⟨_, rfl, ?_⟩))
                     go_meet
                     case rel => exact ⟨_, (false), (by first | rfl | (simp; done) | (simp [*]; done)), H', ⟨by have := HJ3.out; have := HJ17.out; have := HJ28.out; have := HK4.out; first | omega | exact Nat.le_refl _⟩, ⟨by (with_reducible repeat (first | refine blk_drewN ?_ _ | refine blk_drew ?_ | refine blk_alloc ?_ _)); exact BK101.out⟩, ⟨by repeat (first | (with_reducible first | exact HB.out | apply below_alloc | apply pw_below_drewN | apply below_drew1 | refine below_set ?_ GE101.out) | exact HB.out)⟩⟩
                   case rest =>
                    clear HC52
                    try clear c1
                    try clear p1
                    try clear q1
                    try clear hx1
                    try clear c2
                    try clear p2
                    try clear c3
                    try clear c4
                    try clear c5
                    try clear p6
                    try clear c7
                    try clear p10
                    try clear q10
                    try clear hx10
                    try clear c11
                    try clear p11
                    try clear q11
                    try clear hx11
                    try clear c13
                    try clear c16
                    try clear c16b0
                    try clear c16b1
                    try clear c16b2
                    try clear c18
                    try clear c19
                    try clear c21
                    try clear c21b0
                    try clear c21b1
                    try clear c22
                    try clear c22b0
                    try clear c24
                    try clear c26
                    try clear c26b0
                    try clear c27
                    try clear c27b0
                    try clear c30
                    try clear c32
                    try clear c32b0
                    try clear c32b1
                    try clear c33
                    try clear c33b0
                    try clear c35
                    try clear c41
                    try clear c42
                    try clear c43
                    try clear c44
                    try clear c44b0
                    try clear c44b1
                    try clear c49
                    try clear c49b0
                    try clear c50
                    try clear c50b0
                    try clear c51
                    try clear c51b0
                    try clear c55
                    try clear hcz10_0
                    try clear hcz10_1
                    try clear hcz10_2
                    try clear hcz11_0
                    try clear hcz11_1
                    try clear hcz11_2
                    try clear hcz19_0
                    try clear hcz19_1
                    try clear hcz19_2
                    try clear hcz23_0
                    try clear hcz23_1
                    try clear hcz23_2
                    try clear hcz30_0
                    try clear hcz30_1
                    try clear hcz30_2
                    try clear hcz37_0
                    try clear hcz37_1
                    try clear hcz37_2
                    try clear hcz42_0
                    try clear hcz42_1
                    try clear hcz42_2
                    try clear hcz46_0
                    try clear hcz46_1
                    try clear hcz46_2
                    try clear hcz48_0
                    try clear hcz48_1
                    try clear hcz48_2
                    try clear hcz53_0
                    try clear hcz53_1
                    try clear hcz53_2
                    try clear hcz57_0
                    try clear hcz57_1
                    try clear hcz57_2
                    try clear hcz60_0
                    try clear hcz60_1
                    try clear hcz60_2
                    try clear hcz8_0
                    try clear hcz8_1
                    try clear hcz8_2
                    try clear hfz10_0
                    try clear hfz10_1
                    try clear hfz10_2
                    try clear hfz11_0
                    try clear hfz11_1
                    try clear hfz11_2
                    try clear hfz19_0
                    try clear hfz19_1
                    try clear hfz19_2
                    try clear hfz23_0
                    try clear hfz23_1
                    try clear hfz23_2
                    try clear hfz30_0
                    try clear hfz30_1
                    try clear hfz30_2
                    try clear hfz37_0
                    try clear hfz37_1
                    try clear hfz37_2
                    try clear hfz42_0
                    try clear hfz42_1
                    try clear hfz42_2
                    try clear hfz46_0
                    try clear hfz46_1
                    try clear hfz46_2
                    try clear hfz48_0
                    try clear hfz48_1
                    try clear hfz48_2
                    try clear hfz53_0
                    try clear hfz53_1
                    try clear hfz53_2
                    try clear hfz57_0
                    try clear hfz57_1
                    try clear hfz57_2
                    try clear hfz60_0
                    try clear hfz60_1
                    try clear hfz60_2
                    try clear hfz8_0
                    try clear hfz8_1
                    try clear hfz8_2
                    try clear hx106_0
                    try clear hx111_0
                    try clear hx118_0
                    try clear hx119_0
                    try clear p1
                    try clear p10
                    try clear p106
                    try clear p11
                    try clear p111
                    try clear p118
                    try clear p119
                    try clear p2
                    try clear p6
                    try clear q1
                    try clear q10
                    try clear q106
                    try clear q11
                    try clear q111
                    try clear q118
                    try clear q119
                    obtain ⟨kq, x116_51, rfl, HA, HJ51, BK101, HB⟩ := hcut
                    cases kq with
                    | zero => exact absurd HA.out (by simp [peaveylaw01_MarkTold.j4])
                    | succ kj51 =>
                     have H := HA.out
                     clear HA
                     simp only [peaveylaw01_MarkTold.j4] at H
                     by_cases c61 : x116_51 = true
                     ·
                      subst c61
                      have H1 : ((mark_Owners.f a0_0 a0_1 l0_2 x13_4).bind fun bt124 => (if bt124.2 = 0 then (if (bt124.1.length : Int) > 1 then ((peaveylaw01_Works.f kj51).bind fun t128 => (some t128)) else (some false)) else (some false))) = some r := by rw [if_pos rfl] at H; exact H
                      clear H
                      have H := H1
                      clear H1
                      replace H := Option.bind_eq_some_iff.mp H
                      obtain ⟨⟨t124, t127⟩, A620, H⟩ := H
                      replace H : (if t127 = 0 then (if (t124.length : Int) > 1 then ((peaveylaw01_Works.f kj51).bind fun t128 => (some t128)) else (some false)) else (some false)) = some r := H
                      have A62 := Aside0.mk A620
                      clear A620
                      by_cases c63 : t127 = 0
                      ·
                       rw [if_pos c63] at H
                       have c63b0 : (t127 == 0) = true := beq_iff_eq.mpr c63
                       have c63b1 : (t127 != 0) = false := bne_eq_false_iff_eq.mpr c63
                       clear c63
                       by_cases c64 : (t124.length : Int) > 1
                       ·
                        rw [if_pos c64] at H
                        have c64b0 : decide (1 < (t124.length : Int)) = true := decide_eq_true c64
                        have c64b1 : decide (1 < t124.length) = true := decide_eq_true (by omega)
                        clear c64
                        replace H := Option.bind_eq_some_iff.mp H
                        obtain ⟨t128, A650, H⟩ := H
                        replace H : (some t128) = some r := H
                        have A65 := Aside0.mk A650
                        clear A650
                        obtain rfl := Option.some.inj H
                        have hcz66_0 : wc.cell? ⟨gb101, 0, none⟩ = some (.int .i64 a0_0) := (blk_cell BK101.out 0).trans rfl
                        have hcz66_1 : wc.cell? ⟨gb101, 1, none⟩ = some (.int .i64 a0_1) := (blk_cell BK101.out 1).trans rfl
                        have hcz66_2 : wc.cell? ⟨gb101, 2, none⟩ = some (.slice (some ad106) l0_2.length c0_2) := (blk_cell BK101.out 2).trans rfl
                        have hfz66_0 := blk_frozen BK101.out 0
                        have hfz66_1 := blk_frozen BK101.out 1
                        have hfz66_2 := blk_frozen BK101.out 2
                        go_wp2_with (first | ((with_reducible refine gate_callee (f := 19) rfl ?_); refine goesL_ (some 120) rfl rfl Try.func19 (by kernel_rfl) rfl #[.agg #[.int .i64 a0_0, .int .i64 a0_1, .slice (some ad106) l0_2.length c0_2], .int .i64 x13_4] rfl (by (try simp only [List.map_toArray, List.map_cons, List.map_nil]); first | done | rfl | (simp only [List.length_drop, List.length_take]; rfl)) ?_; (with_reducible refine (mark_Owners.calls a0_0 a0_1 _ _ l0_2 x13_4 t124 t127 _ ?side1 ?side2 A62.out).mono ?_); (case side1 => repeat (first | exact (Kd.C_below HR0_2.out HB.out) | (with_reducible refine Kd.C_alloc ?_ _) | (with_reducible refine Kd.C_drewN ?_ _) | (with_reducible refine Kd.C_drew ?_))); (case side2 => exact HC0_2.out); rintro e w67 ⟨v125, rfl, ho0, hb⟩; refine ⟨_, rfl, ?_⟩; have n0_ := Aside0.mk (Kd.R_lower ho0 (below_size (by repeat (first | (with_reducible first | exact HB.out | apply below_alloc | apply pw_below_drewN | apply below_drew1 | refine below_set ?_ GE101.out) | exact HB.out)))); have n1_ := Aside0.mk (blk_below (g := gb101) (o := .cells #[.int .i64 a0_0, .int .i64 a0_1, .slice (some ad106) l0_2.length c0_2] 24 (0, 0)) (by (with_reducible repeat (first | refine blk_drewN ?_ _ | refine blk_drew ?_ | refine blk_alloc ?_ _)); exact BK101.out) hb); have n2_ := Aside0.mk (below_step (by repeat (first | (with_reducible first | exact HB.out | apply below_alloc | apply pw_below_drewN | apply below_drew1 | refine below_set ?_ GE101.out) | exact HB.out)) hb); clear BK101; clear HB; have HO126 := n0_; have BK101 := n1_; have HB := n2_; clear n0_ n1_ n2_; (try clear hb); (try clear hb2); (try clear hk); (try clear hi); (try clear ho0); obtain ⟨Ao68, co68, eo68⟩ := Kd.R_slice HO126.out; subst eo68) | (go_at_call 18; (with_reducible refine (peaveylaw01_Works.calls kj51  t128 _ A65.out).mono ?_); rintro e w69 ⟨rfl, hb⟩; have n0_ := Aside0.mk (Kd.R_below (by (with_reducible repeat (first | apply Kd.R_alloc | apply Kd.R_drewN | apply Kd.R_drew)); exact HO126.out) hb); have n1_ := Aside0.mk (blk_below (g := gb101) (o := .cells #[.int .i64 a0_0, .int .i64 a0_1, .slice (some ad106) l0_2.length c0_2] 24 (0, 0)) (by (with_reducible repeat (first | refine blk_drewN ?_ _ | refine blk_drew ?_ | refine blk_alloc ?_ _)); exact BK101.out) hb); have n2_ := Aside0.mk (below_step (by repeat (first | (with_reducible first | exact HB.out | apply below_alloc | apply pw_below_drewN | apply below_drew1 | refine below_set ?_ GE101.out) | exact HB.out)) hb); clear HO126; clear BK101; clear HB; have HO126 := n0_; have BK101 := n1_; have HB := n2_; clear n0_ n1_ n2_; (try clear hb); (try clear hb2); (try clear hk); (try clear hi)))
                        go_ret
                        exact ⟨by first | rfl | (simp [errW_none, errW_some] <;> rfl) | (simp only [← hji25]; first | rfl | (simp [errW_none, errW_some] <;> rfl)) | (simp [*, errW_none, errW_some] <;> rfl), by repeat (first | (with_reducible first | exact HB.out | apply below_alloc | apply pw_below_drewN | apply below_drew1 | refine below_set ?_ GE101.out) | exact HB.out)⟩
                       ·
                        rw [if_neg c64] at H
                        have c64b0 : decide (1 < (t124.length : Int)) = false := decide_eq_false c64
                        have c64b1 : decide (1 < t124.length) = false := decide_eq_false (by omega)
                        clear c64
                        obtain rfl := Option.some.inj H
                        have hcz70_0 : wc.cell? ⟨gb101, 0, none⟩ = some (.int .i64 a0_0) := (blk_cell BK101.out 0).trans rfl
                        have hcz70_1 : wc.cell? ⟨gb101, 1, none⟩ = some (.int .i64 a0_1) := (blk_cell BK101.out 1).trans rfl
                        have hcz70_2 : wc.cell? ⟨gb101, 2, none⟩ = some (.slice (some ad106) l0_2.length c0_2) := (blk_cell BK101.out 2).trans rfl
                        have hfz70_0 := blk_frozen BK101.out 0
                        have hfz70_1 := blk_frozen BK101.out 1
                        have hfz70_2 := blk_frozen BK101.out 2
                        go_wp2_with (first | ((with_reducible refine gate_callee (f := 19) rfl ?_); refine goesL_ (some 120) rfl rfl Try.func19 (by kernel_rfl) rfl #[.agg #[.int .i64 a0_0, .int .i64 a0_1, .slice (some ad106) l0_2.length c0_2], .int .i64 x13_4] rfl (by (try simp only [List.map_toArray, List.map_cons, List.map_nil]); first | done | rfl | (simp only [List.length_drop, List.length_take]; rfl)) ?_; (with_reducible refine (mark_Owners.calls a0_0 a0_1 _ _ l0_2 x13_4 t124 t127 _ ?side1 ?side2 A62.out).mono ?_); (case side1 => repeat (first | exact (Kd.C_below HR0_2.out HB.out) | (with_reducible refine Kd.C_alloc ?_ _) | (with_reducible refine Kd.C_drewN ?_ _) | (with_reducible refine Kd.C_drew ?_))); (case side2 => exact HC0_2.out); rintro e w71 ⟨v125, rfl, ho0, hb⟩; refine ⟨_, rfl, ?_⟩; have n0_ := Aside0.mk (Kd.R_lower ho0 (below_size (by repeat (first | (with_reducible first | exact HB.out | apply below_alloc | apply pw_below_drewN | apply below_drew1 | refine below_set ?_ GE101.out) | exact HB.out)))); have n1_ := Aside0.mk (blk_below (g := gb101) (o := .cells #[.int .i64 a0_0, .int .i64 a0_1, .slice (some ad106) l0_2.length c0_2] 24 (0, 0)) (by (with_reducible repeat (first | refine blk_drewN ?_ _ | refine blk_drew ?_ | refine blk_alloc ?_ _)); exact BK101.out) hb); have n2_ := Aside0.mk (below_step (by repeat (first | (with_reducible first | exact HB.out | apply below_alloc | apply pw_below_drewN | apply below_drew1 | refine below_set ?_ GE101.out) | exact HB.out)) hb); clear BK101; clear HB; have HO126 := n0_; have BK101 := n1_; have HB := n2_; clear n0_ n1_ n2_; (try clear hb); (try clear hb2); (try clear hk); (try clear hi); (try clear ho0); obtain ⟨Ao72, co72, eo72⟩ := Kd.R_slice HO126.out; subst eo72))
                        go_ret
                        exact ⟨by first | rfl | (simp [errW_none, errW_some] <;> rfl) | (simp only [← hji25]; first | rfl | (simp [errW_none, errW_some] <;> rfl)) | (simp [*, errW_none, errW_some] <;> rfl), by repeat (first | (with_reducible first | exact HB.out | apply below_alloc | apply pw_below_drewN | apply below_drew1 | refine below_set ?_ GE101.out) | exact HB.out)⟩
                      ·
                       rw [if_neg c63] at H
                       have c63b0 : (t127 == 0) = false := beq_eq_false_iff_ne.mpr c63
                       have c63b1 : (t127 != 0) = true := bne_iff_ne.mpr c63
                       obtain rfl := Option.some.inj H
                       have hcz73_0 : wc.cell? ⟨gb101, 0, none⟩ = some (.int .i64 a0_0) := (blk_cell BK101.out 0).trans rfl
                       have hcz73_1 : wc.cell? ⟨gb101, 1, none⟩ = some (.int .i64 a0_1) := (blk_cell BK101.out 1).trans rfl
                       have hcz73_2 : wc.cell? ⟨gb101, 2, none⟩ = some (.slice (some ad106) l0_2.length c0_2) := (blk_cell BK101.out 2).trans rfl
                       have hfz73_0 := blk_frozen BK101.out 0
                       have hfz73_1 := blk_frozen BK101.out 1
                       have hfz73_2 := blk_frozen BK101.out 2
                       go_wp2_with (first | ((with_reducible refine gate_callee (f := 19) rfl ?_); refine goesL_ (some 120) rfl rfl Try.func19 (by kernel_rfl) rfl #[.agg #[.int .i64 a0_0, .int .i64 a0_1, .slice (some ad106) l0_2.length c0_2], .int .i64 x13_4] rfl (by (try simp only [List.map_toArray, List.map_cons, List.map_nil]); first | done | rfl | (simp only [List.length_drop, List.length_take]; rfl)) ?_; (with_reducible refine (mark_Owners.calls a0_0 a0_1 _ _ l0_2 x13_4 t124 t127 _ ?side1 ?side2 A62.out).mono ?_); (case side1 => repeat (first | exact (Kd.C_below HR0_2.out HB.out) | (with_reducible refine Kd.C_alloc ?_ _) | (with_reducible refine Kd.C_drewN ?_ _) | (with_reducible refine Kd.C_drew ?_))); (case side2 => exact HC0_2.out); rintro e w74 ⟨v125, rfl, ho0, hb⟩; refine ⟨_, rfl, ?_⟩; have n0_ := Aside0.mk (Kd.R_lower ho0 (below_size (by repeat (first | (with_reducible first | exact HB.out | apply below_alloc | apply pw_below_drewN | apply below_drew1 | refine below_set ?_ GE101.out) | exact HB.out)))); have n1_ := Aside0.mk (blk_below (g := gb101) (o := .cells #[.int .i64 a0_0, .int .i64 a0_1, .slice (some ad106) l0_2.length c0_2] 24 (0, 0)) (by (with_reducible repeat (first | refine blk_drewN ?_ _ | refine blk_drew ?_ | refine blk_alloc ?_ _)); exact BK101.out) hb); have n2_ := Aside0.mk (below_step (by repeat (first | (with_reducible first | exact HB.out | apply below_alloc | apply pw_below_drewN | apply below_drew1 | refine below_set ?_ GE101.out) | exact HB.out)) hb); clear BK101; clear HB; have HO126 := n0_; have BK101 := n1_; have HB := n2_; clear n0_ n1_ n2_; (try clear hb); (try clear hb2); (try clear hk); (try clear hi); (try clear ho0)))
                       go_ret
                       exact ⟨by first | rfl | (simp [errW_none, errW_some] <;> rfl) | (simp only [← hji25]; first | rfl | (simp [errW_none, errW_some] <;> rfl)) | (simp [*, errW_none, errW_some] <;> rfl), by repeat (first | (with_reducible first | exact HB.out | apply below_alloc | apply pw_below_drewN | apply below_drew1 | refine below_set ?_ GE101.out) | exact HB.out)⟩
                     ·
                      replace c61 := Bool.eq_false_iff.mpr c61
                      subst c61
                      have H1 : (peaveylaw01_MarkTold.l0 kj51 (ji25) t104 (wrap64 (x13_4 + 1)) a0_0 a0_1 l0_2) = some r := by rw [if_neg (show ¬ (false = true) by decide)] at H; exact H
                      clear H
                      have H := H1
                      clear H1
                      have H' := Aside0.mk H
                      clear H
                      go_wp2
                      go_roundg kj51
                      case measure => have := HJ3.out; have := HJ17.out; have := HJ28.out; have := HK4.out; have := HJ51.out; omega
                      case rel => exact ⟨(wrap64 (x13_4 + 1)), (by first | rfl | (simp; done) | (simp [*]; done)), H', ⟨by have := HJ3.out; have := HJ17.out; have := HJ28.out; have := HK4.out; have := HJ51.out; omega⟩, ⟨by (with_reducible repeat (first | refine blk_drewN ?_ _ | refine blk_drew ?_ | refine blk_alloc ?_ _)); exact BK101.out⟩, ⟨by repeat (first | (with_reducible first | exact HB.out | apply below_alloc | apply pw_below_drewN | apply below_drew1 | refine below_set ?_ GE101.out) | exact HB.out)⟩⟩
                  ·
                   rw [if_neg c51] at H
                   have c51b0 : decide (x13_4 ≤ (rd l0_2 (ji25))) = false := decide_eq_false c51
                   clear c51
                   obtain rfl := Option.some.inj H
                   have hcz75_0 : wr.cell? ⟨gb101, 0, none⟩ = some (.int .i64 a0_0) := (blk_cell BK101.out 0).trans rfl
                   have hcz75_1 : wr.cell? ⟨gb101, 1, none⟩ = some (.int .i64 a0_1) := (blk_cell BK101.out 1).trans rfl
                   have hcz75_2 : wr.cell? ⟨gb101, 2, none⟩ = some (.slice (some ad106) l0_2.length c0_2) := (blk_cell BK101.out 2).trans rfl
                   have hfz75_0 := blk_frozen BK101.out 0
                   have hfz75_1 := blk_frozen BK101.out 1
                   have hfz75_2 := blk_frozen BK101.out 2
                   have p118 : 0 ≤ ((ji25) : Int) := of_decide_eq_true (by first | (with_reducible assumption) | assumption)
                   have q118 : (ji25) < (l0_2.length : Int) := of_decide_eq_true (by first | (with_reducible assumption) | assumption)
                   obtain ⟨ad118, e118, hx118_0⟩ := Kd.at_int HR0_2.out (ji25) p118 q118
                   obtain rfl : ad106 = ad118 := (by injection e118)
                   replace hx118_0 := (HB.out.cell (World.block_lt_of_cell? w _ hx118_0)).trans hx118_0
                   replace p118 := eq_true p118
                   replace q118 := eq_true q118
                   go_wp2
                   go_ret
                   exact ⟨by first | rfl | (simp [errW_none, errW_some] <;> rfl) | (simp only [← hji25]; first | rfl | (simp [errW_none, errW_some] <;> rfl)) | (simp [*, errW_none, errW_some] <;> rfl), by repeat (first | (with_reducible first | exact HB.out | apply below_alloc | apply pw_below_drewN | apply below_drew1 | refine below_set ?_ GE101.out) | exact HB.out)⟩
                 ·
                  rw [if_neg c50] at H
                  exact absurd H (by simp)
                ·
                 rw [if_neg c49] at H
                 exact absurd H (by simp)
         ·
          rw [if_neg c27] at H
          exact absurd H (by simp)
        ·
         rw [if_neg c26] at H
         exact absurd H (by simp)

end Go.Proofs.Ytbhcchhhpmlpmaa.Ptld
