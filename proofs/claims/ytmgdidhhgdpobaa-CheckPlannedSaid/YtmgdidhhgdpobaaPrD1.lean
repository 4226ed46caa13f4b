/- The machine's side of some functions: each Go function as a plain Lean function, and a proof that its call comes to what that says. Written by a program of the session's over the kit's print. -/
import Derived.Test.YtmgdidhhgdpobaaPrD0
namespace Go.Proofs.Ytmgdidhhgdpobaa.PrD
open Go.RowKit Go.Proofs.YtmgdidhhgdpobaaW.PrintWords Go.Proofs.YtmgdidhhgdpobaaW.PrintLast Go.Proofs.YtmgdidhhgdpobaaW.PrintMore
attribute [local go_sem] max2_int min2_int max_two min_two max_three min_three max_four min_four   -- for this text's walks alone
set_option linter.unusedVariables false
set_option linter.unusedSimpArgs false

/-! ### peaveylaw10_boom: function 43 -/
def peaveylaw10_boom.f (a0 : Int) (a1 : Int) (a2 : Int) (a3 : Int) : Option (Int × Int × Int × Int) := if (wrap64 ((wrap64 (1 + (Int.tmod (wrap64 (a0)) 50))) + 1)) = 0 then (none) else (if (wrap64 ((Int.tmod (wrap64 (a2)) (wrap64 ((wrap64 (1 + (Int.tmod (wrap64 (a0)) 50))) + 1))) + 1)) = 0 then (none) else (some (wrap64 (1 + (Int.tmod (wrap64 (a0)) 50)), Int.tmod (wrap64 (a1)) (wrap64 ((wrap64 (1 + (Int.tmod (wrap64 (a0)) 50))) + 1)), Int.tmod (wrap64 (a2)) (wrap64 ((wrap64 (1 + (Int.tmod (wrap64 (a0)) 50))) + 1)), Int.tmod (wrap64 (a3)) (wrap64 ((Int.tmod (wrap64 (a2)) (wrap64 ((wrap64 (1 + (Int.tmod (wrap64 (a0)) 50))) + 1))) + 1)))))
set_option maxHeartbeats 8000000 in
set_option maxRecDepth 100000 in
theorem peaveylaw10_boom.calls (a0 : Int) (a1 : Int) (a2 : Int) (a3 : Int) (r1 : Int) (r2 : Int) (r3 : Int) (r4 : Int) (w : World) (h : peaveylaw10_boom.f a0 a1 a2 a3 = some (r1, r2, r3, r4)) :
    Calls Try.prog 43 #[.int .u8 a0, .int .u8 a1, .int .u8 a2, .int .u8 a3] w fun e w' => e = .returned (.tuple #[.int .i64 r1, .int .i64 r2, .int .i64 r3, .int .i64 r4]) ∧ Drawn0 w w' := by
  have H : (if (wrap64 ((wrap64 (1 + (Int.tmod (wrap64 (a0)) 50))) + 1)) = 0 then (none) else (if (wrap64 ((Int.tmod (wrap64 (a2)) (wrap64 ((wrap64 (1 + (Int.tmod (wrap64 (a0)) 50))) + 1))) + 1)) = 0 then (none) else (some (wrap64 (1 + (Int.tmod (wrap64 (a0)) 50)), Int.tmod (wrap64 (a1)) (wrap64 ((wrap64 (1 + (Int.tmod (wrap64 (a0)) 50))) + 1)), Int.tmod (wrap64 (a2)) (wrap64 ((wrap64 (1 + (Int.tmod (wrap64 (a0)) 50))) + 1)), Int.tmod (wrap64 (a3)) (wrap64 ((Int.tmod (wrap64 (a2)) (wrap64 ((wrap64 (1 + (Int.tmod (wrap64 (a0)) 50))) + 1))) + 1)))))) = some (r1, r2, r3, r4) := h
  clear h
  by_cases c5 : (wrap64 ((wrap64 (1 + (Int.tmod (wrap64 (a0)) 50))) + 1)) = 0
  · rw [if_pos c5] at H
    exact absurd H (by simp)
  · rw [if_neg c5] at H
    have c5b0 : ((wrap64 ((wrap64 (1 + (Int.tmod (wrap64 (a0)) 50))) + 1)) == 0) = false := beq_eq_false_iff_ne.mpr c5
    have c5b1 : ((wrap64 ((wrap64 (1 + (Int.tmod (wrap64 (a0)) 50))) + 1)) != 0) = true := bne_iff_ne.mpr c5
    by_cases c6 : (wrap64 ((Int.tmod (wrap64 (a2)) (wrap64 ((wrap64 (1 + (Int.tmod (wrap64 (a0)) 50))) + 1))) + 1)) = 0
    · rw [if_pos c6] at H
      exact absurd H (by simp)
    · rw [if_neg c6] at H
      have c6b0 : ((wrap64 ((Int.tmod (wrap64 (a2)) (wrap64 ((wrap64 (1 + (Int.tmod (wrap64 (a0)) 50))) + 1))) + 1)) == 0) = false := beq_eq_false_iff_ne.mpr c6
      have c6b1 : ((wrap64 ((Int.tmod (wrap64 (a2)) (wrap64 ((wrap64 (1 + (Int.tmod (wrap64 (a0)) 50))) + 1))) + 1)) != 0) = true := bne_iff_ne.mpr c6
      simp only [Option.some.injEq, Prod.mk.injEq] at H
      obtain ⟨rfl, rfl, rfl, rfl⟩ := H
      go_enter Try.func43, Try.ntmps43
      go_wp2
      repeat (go_quiet (fail); try go_wp2)
      refine bodyPost_ret (results_list (rs := [.tmp 8, .tmp 9, .tmp 10, .tmp 11]) rfl (by simp) (.tmp (.tmp (.tmp (.tmp .nil))))) rfl ?_
      exact ⟨by first | rfl | (simp; done) | (simp [*]; done), by repeat (first | exact Drawn0.refl _ | apply Drawn0.step)⟩

/-! ### peaveylaw10_frac: function 55 -/
def peaveylaw10_frac.f (a0 : Int) (a1 : Int) : Option (Int × Int) := some (a0, a1)
set_option maxHeartbeats 8000000 in
set_option maxRecDepth 100000 in
theorem peaveylaw10_frac.calls (a0 : Int) (a1 : Int) (r1 : Int) (r2 : Int) (w : World) (h : peaveylaw10_frac.f a0 a1 = some (r1, r2)) :
    Calls Try.prog 55 #[.int .i64 a0, .int .i64 a1] w fun e w' => e = .returned (.agg #[.int .i64 r1, .int .i64 r2]) ∧ Below w.heap.size w w' := by
  have hu27 := Try.underlying27
  have HB := Aside0.mk (Below.refl w.heap.size w)
  have H : (some (a0, a1)) = some (r1, r2) := h
  clear h
  simp only [Option.some.injEq, Prod.mk.injEq] at H
  obtain ⟨rfl, rfl⟩ := H
  go_enter Try.func55, Try.ntmps55
  go_wp2_with (first | ((with_reducible refine gate_dst (N := 4) rfl ?_); refine box_event ?hg (N := 4) ?hd (cs := #[.int .i64 0, .int .i64 0]) (t := 27) ?hr ?_; (case hd => rfl); (case hg => rfl); (case hr => first | (go_simp; done) | (go_simp; rfl)); intro gb101 hg w3 hbox hb; have n0_ := Aside0.mk (below_step (by repeat (first | (with_reducible first | exact HB.out | apply below_alloc | apply pw_below_drewN | apply below_drew1) | exact HB.out)) hb); have n1_ := Aside0.mk (hbox); have n2_ := Aside0.mk ((by rw [hg]; exact (below_size (by repeat (first | (with_reducible first | exact HB.out | apply below_alloc | apply pw_below_drewN | apply below_drew1) | exact HB.out))) : w.heap.size ≤ gb101)); have n3_ := Aside0.mk ((by rw [hg]; exact (below_size (by repeat (first | (with_reducible first | exact HB.out | apply below_alloc | apply pw_below_drewN | apply below_drew1) | exact HB.out))) : w.heap.size ≤ gb101)); clear HB; have HB := n0_; have BK101 := n1_; have GW101 := n2_; have GE101 := n3_; clear n0_ n1_ n2_ n3_; clear hb hbox hg; have hcz4_0 : w3.cell? ⟨gb101, 0, none⟩ = some (.int .i64 0) := (blk_cell BK101.out 0).trans rfl; have hcz4_1 : w3.cell? ⟨gb101, 1, none⟩ = some (.int .i64 0) := (blk_cell BK101.out 1).trans rfl; have hfz4_0 := blk_frozen BK101.out 0; have hfz4_1 := blk_frozen BK101.out 1))
  refine bodyPost_ret (results_cell_row rfl _ _ gb101 27 #[.int .i64 a0, .int .i64 a1] (0, 0) _ rfl (by (with_reducible repeat (first | refine blk_drewN ?_ _ | refine blk_drew ?_ | refine blk_alloc ?_ _)); refine blk_put (cs := #[.int .i64 a0, .int .i64 0]) ?_ 1 _ rfl; (with_reducible repeat (first | refine blk_drewN ?_ _ | refine blk_drew ?_ | refine blk_alloc ?_ _)); refine blk_put (cs := #[.int .i64 0, .int .i64 0]) ?_ 0 _ rfl; (with_reducible repeat (first | refine blk_drewN ?_ _ | refine blk_drew ?_ | refine blk_alloc ?_ _)); exact BK101.out) Try.underlying27 rfl (by kernel_rfl)) rfl ?_
  exact ⟨by first | rfl | (simp [errW_none, errW_some] <;> rfl) | (simp [*, errW_none, errW_some] <;> rfl), by repeat (first | (with_reducible first | exact HB.out | apply below_alloc | apply pw_below_drewN | apply below_drew1 | refine below_set ?_ GE101.out) | exact HB.out)⟩

/-! ### peaveylaw10_Risk: function 48 -/
def peaveylaw10_Risk.f (a0 : Int) (a1 : Int) : Option (Int × Int) := if (wrap64 (Int.tdiv (wrap64 ((wrap64 (1 + (Int.tmod (wrap64 (a1)) 1000))) + 1)) 2)) = 0 then (none) else ((peaveylaw10_frac.f (Int.tmod (wrap64 (a0)) (wrap64 (Int.tdiv (wrap64 ((wrap64 (1 + (Int.tmod (wrap64 (a1)) 1000))) + 1)) 2))) (wrap64 (1 + (Int.tmod (wrap64 (a1)) 1000)))).bind fun bt103 => (some (bt103.1, bt103.2)))
set_option maxHeartbeats 8000000 in
set_option maxRecDepth 100000 in
theorem peaveylaw10_Risk.calls (a0 : Int) (a1 : Int) (r1 : Int) (r2 : Int) (w : World) (h : peaveylaw10_Risk.f a0 a1 = some (r1, r2)) :
    Calls Try.prog 48 #[.int .u16 a0, .int .u16 a1] w fun e w' => e = .returned (.agg #[.int .i64 r1, .int .i64 r2]) ∧ Below w.heap.size w w' := by
  have hu27 := Try.underlying27
  have HB := Aside0.mk (Below.refl w.heap.size w)
  have H : (if (wrap64 (Int.tdiv (wrap64 ((wrap64 (1 + (Int.tmod (wrap64 (a1)) 1000))) + 1)) 2)) = 0 then (none) else ((peaveylaw10_frac.f (Int.tmod (wrap64 (a0)) (wrap64 (Int.tdiv (wrap64 ((wrap64 (1 + (Int.tmod (wrap64 (a1)) 1000))) + 1)) 2))) (wrap64 (1 + (Int.tmod (wrap64 (a1)) 1000)))).bind fun bt103 => (some (bt103.1, bt103.2)))) = some (r1, r2) := h
  clear h
  by_cases c3 : (wrap64 (Int.tdiv (wrap64 ((wrap64 (1 + (Int.tmod (wrap64 (a1)) 1000))) + 1)) 2)) = 0
  · rw [if_pos c3] at H
    exact absurd H (by simp)
  · rw [if_neg c3] at H
    have c3b0 : ((wrap64 (Int.tdiv (wrap64 ((wrap64 (1 + (Int.tmod (wrap64 (a1)) 1000))) + 1)) 2)) == 0) = false := beq_eq_false_iff_ne.mpr c3
    have c3b1 : ((wrap64 (Int.tdiv (wrap64 ((wrap64 (1 + (Int.tmod (wrap64 (a1)) 1000))) + 1)) 2)) != 0) = true := bne_iff_ne.mpr c3
    replace H := Option.bind_eq_some_iff.mp H
    obtain ⟨⟨t103, t104⟩, A40, H⟩ := H
    replace H : (some (t103, t104)) = some (r1, r2) := H
    have A4 := Aside0.mk A40
    clear A40
    simp only [Option.some.injEq, Prod.mk.injEq] at H
    obtain ⟨rfl, rfl⟩ := H
    go_enter Try.func48, Try.ntmps48
    go_wp2_with (first | ((with_reducible refine gate_dst (N := 4) rfl ?_); refine box_event ?hg (N := 4) ?hd (cs := #[.int .i64 0, .int .i64 0]) (t := 27) ?hr ?_; (case hd => rfl); (case hg => rfl); (case hr => first | (go_simp; done) | (go_simp; rfl)); intro gb102 hg w5 hbox hb; have n0_ := Aside0.mk (below_step (by repeat (first | (with_reducible first | exact HB.out | apply below_alloc | apply pw_below_drewN | apply below_drew1) | exact HB.out)) hb); have n1_ := Aside0.mk (hbox); have n2_ := Aside0.mk ((by rw [hg]; exact (below_size (by repeat (first | (with_reducible first | exact HB.out | apply below_alloc | apply pw_below_drewN | apply below_drew1) | exact HB.out))) : w.heap.size ≤ gb102)); have n3_ := Aside0.mk ((by rw [hg]; exact (below_size (by repeat (first | (with_reducible first | exact HB.out | apply below_alloc | apply pw_below_drewN | apply below_drew1) | exact HB.out))) : w.heap.size ≤ gb102)); clear HB; have HB := n0_; have BK102 := n1_; have GW102 := n2_; have GE102 := n3_; clear n0_ n1_ n2_ n3_; clear hb hbox hg) | ((with_reducible refine gate_callee (f := 55) rfl ?_); refine goesL_ (some 17) rfl rfl Try.func55 (by kernel_rfl) rfl #[.int .i64 (Int.tmod (wrap64 (a0)) (wrap64 (Int.tdiv (wrap64 ((wrap64 (1 + (Int.tmod (wrap64 (a1)) 1000))) + 1)) 2))), .int .i64 (wrap64 (1 + (Int.tmod (wrap64 (a1)) 1000)))] rfl (by (try simp only [List.map_toArray, List.map_cons, List.map_nil]); first | done | rfl | (simp only [List.length_drop, List.length_take]; rfl)) ?_; (with_reducible refine (peaveylaw10_frac.calls (Int.tmod (wrap64 (a0)) (wrap64 (Int.tdiv (wrap64 ((wrap64 (1 + (Int.tmod (wrap64 (a1)) 1000))) + 1)) 2))) (wrap64 (1 + (Int.tmod (wrap64 (a1)) 1000))) t103 t104 _ A4.out).mono ?_); rintro e w6 ⟨rfl, hb⟩; refine ⟨_, rfl, ?_⟩; have n0_ := Aside0.mk (blk_below (g := gb102) (o := .cells #[.int .i64 0, .int .i64 0] 27 (0, 0)) (by (with_reducible repeat (first | refine blk_drewN ?_ _ | refine blk_drew ?_ | refine blk_alloc ?_ _)); exact BK102.out) hb); have n1_ := Aside0.mk (below_step (by repeat (first | (with_reducible first | exact HB.out | apply below_alloc | apply pw_below_drewN | apply below_drew1 | refine below_set ?_ GE102.out) | exact HB.out)) hb); clear BK102; clear HB; have BK102 := n0_; have HB := n1_; clear n0_ n1_; (try clear hb); (try clear hb2); (try clear hk); (try clear hi); have hcz7_0 : w6.cell? ⟨gb102, 0, none⟩ = some (.int .i64 0) := (blk_cell BK102.out 0).trans rfl; have hcz7_1 : w6.cell? ⟨gb102, 1, none⟩ = some (.int .i64 0) := (blk_cell BK102.out 1).trans rfl; have hfz7_0 := blk_frozen BK102.out 0; have hfz7_1 := blk_frozen BK102.out 1))
    refine bodyPost_ret (results_cell_row rfl _ _ gb102 27 #[.int .i64 t103, .int .i64 t104] (0, 0) _ rfl (by (with_reducible repeat (first | refine blk_drewN ?_ _ | refine blk_drew ?_ | refine blk_alloc ?_ _)); refine blk_put (cs := #[.int .i64 t103, .int .i64 0]) ?_ 1 _ rfl; (with_reducible repeat (first | refine blk_drewN ?_ _ | refine blk_drew ?_ | refine blk_alloc ?_ _)); refine blk_put (cs := #[.int .i64 0, .int .i64 0]) ?_ 0 _ rfl; (with_reducible repeat (first | refine blk_drewN ?_ _ | refine blk_drew ?_ | refine blk_alloc ?_ _)); exact BK102.out) Try.underlying27 rfl (by kernel_rfl)) rfl ?_
    exact ⟨by first | rfl | (simp [errW_none, errW_some] <;> rfl) | (simp [*, errW_none, errW_some] <;> rfl), by repeat (first | (with_reducible first | exact HB.out | apply below_alloc | apply pw_below_drewN | apply below_drew1 | refine below_set ?_ GE102.out) | exact HB.out)⟩

end Go.Proofs.Ytmgdidhhgdpobaa.PrD
