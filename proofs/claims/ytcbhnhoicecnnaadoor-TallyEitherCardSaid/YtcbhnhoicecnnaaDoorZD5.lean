/- Texts of the session's, joined: what HWorks, HRow names of them, in build order (joined and cut by a program of the session's). -/
import Derived.Test.YtcbhnhoicecnnaaDoorZD4
set_option linter.unusedVariables false
set_option linter.unusedSimpArgs false
namespace Go.Proofs.YtcbhnhoicecnnaaDoor.PrK
open Go.RowKit Go.Proofs.YtcbhnhoicecnnaaDoorW.PrintWords Go.Proofs.YtcbhnhoicecnnaaDoorW.PrintLast Go.Proofs.YtcbhnhoicecnnaaDoorW.PrintMore Go.Proofs.YtcbhnhoicecnnaaDoor.Hand
attribute [local go_sem] max2_int min2_int max_two min_two max_three min_three max_four min_four
set_option linter.unusedVariables false
set_option linter.unusedSimpArgs false
mutual
def peaveyref11_BoundOf.l0 : Nat → List Int → List (S24) → Int → Int → List (S24) → List (S24) → Int → Int → List (S24) → Option (Int)
  | 0, _, _, _, _, _, _, _, _, _ => none
  | k + 1, x1, x5, x6, x7, x162000, x162001, x162002, x162003, x162004 => if x7 < (x5.length : Int) then (if 0 ≤ x7 then (if x7 < (x1.length : Int) then (if (rd x1 x7) > 0 then (if (rd x1 x7) < 0 then (peaveyref11_BoundOf.l0 k x1 x5 (wrap64 ((wrap64 (x6 + ((rd_T24 x5 x7).f0))) - ((rd_T24 x5 x7).f1))) (wrap64 (x7 + 1)) x162000 x162001 x162002 x162003 x162004) else (peaveyref11_BoundOf.l0 k x1 x5 (wrap64 (x6 + ((rd_T24 x5 x7).f0))) (wrap64 (x7 + 1)) x162000 x162001 x162002 x162003 x162004)) else (if (rd x1 x7) < 0 then (peaveyref11_BoundOf.l0 k x1 x5 (wrap64 (x6 - ((rd_T24 x5 x7).f1))) (wrap64 (x7 + 1)) x162000 x162001 x162002 x162003 x162004) else (peaveyref11_BoundOf.l0 k x1 x5 x6 (wrap64 (x7 + 1)) x162000 x162001 x162002 x162003 x162004))) else (none)) else (none)) else (peaveyref11_BoundOf.l1 k x1 x6 (x162000.length : Int) (x162001.length : Int) 0 x162000 x162001 x162002 x162003 x162004)
def peaveyref11_BoundOf.l1 : Nat → List Int → Int → Int → Int → Int → List (S24) → List (S24) → Int → Int → List (S24) → Option (Int)
  | 0, _, _, _, _, _, _, _, _, _, _ => none
  | k + 1, x1, x6, x8, x9, x10, x162000, x162001, x162002, x162003, x162004 => if x10 < (x162004.length : Int) then (if x9 = 0 then (none) else (if 0 ≤ (wrap64 (Int.tdiv x10 x9)) then (if (wrap64 (Int.tdiv x10 x9)) < (x1.length : Int) then (if 0 ≤ (wrap64 (x8 + (Int.tmod x10 x9))) then (if (wrap64 (x8 + (Int.tmod x10 x9))) < (x1.length : Int) then (if 0 ≤ (wrap64 (x8 + x9)) then (if (wrap64 (x8 + x9)) < (x1.length : Int) then (if 0 ≤ x10 then (peaveyref11_BoundOf.l1 k x1 (wrap64 (x6 + (mn (wrap64 ((wrap64 (-(wrap64 ((wrap64 ((rd x1 (wrap64 (Int.tdiv x10 x9))) + (rd x1 (wrap64 (x8 + (Int.tmod x10 x9)))))) + (rd x1 (wrap64 (x8 + x9))))))) * ((rd_T24 x162004 x10).f0))) (wrap64 ((wrap64 (-(wrap64 ((wrap64 ((rd x1 (wrap64 (Int.tdiv x10 x9))) + (rd x1 (wrap64 (x8 + (Int.tmod x10 x9)))))) + (rd x1 (wrap64 (x8 + x9))))))) * ((rd_T24 x162004 x10).f1)))))) x8 x9 (wrap64 (x10 + 1)) x162000 x162001 x162002 x162003 x162004) else (none)) else (none)) else (none)) else (none)) else (none)) else (none)) else (none))) else (some x6)
end
def peaveyref11_BoundOf.f (k : Nat) (l0_0 : List (S24)) (l0_1 : List (S24)) (a0_2 : Int) (a0_3 : Int) (l0_4 : List (S24)) (l1 : List Int) : Option (Int) := (peaveyref11_Tallies.f l0_0 l0_1 a0_2 a0_3 l0_4).bind fun t162 => (peaveyref11_BoundOf.l0 k l1 t162 0 0 l0_0 l0_1 a0_2 a0_3 l0_4)
set_option maxHeartbeats 8000000 in
set_option maxRecDepth 100000 in
theorem peaveyref11_BoundOf.calls (k : Nat) (A0_0 : Option Addr) (c0_0 : Nat) (l0_0 : List (S24)) (A0_1 : Option Addr) (c0_1 : Nat) (l0_1 : List (S24)) (a0_2 : Int) (a0_3 : Int) (A0_4 : Option Addr) (c0_4 : Nat) (l0_4 : List (S24)) (A1 : Option Addr) (c1 : Nat) (l1 : List Int) (r : Int) (w : World) (hr0_0 : Kd.C k24 w A0_0 l0_0.length l0_0) (hc0_0 : l0_0.length ≤ c0_0) (hr0_1 : Kd.C k24 w A0_1 l0_1.length l0_1) (hc0_1 : l0_1.length ≤ c0_1) (hr0_4 : Kd.C k24 w A0_4 l0_4.length l0_4) (hc0_4 : l0_4.length ≤ c0_4) (hr1 : Kd.C (Kd.int .i64) w A1 l1.length l1) (hc1 : l1.length ≤ c1) (h : peaveyref11_BoundOf.f k l0_0 l0_1 a0_2 a0_3 l0_4 l1 = some r) :
    Calls Tryd.prog 58 #[.agg #[.slice A0_0 l0_0.length c0_0, .slice A0_1 l0_1.length c0_1, .int .i64 a0_2, .int .i64 a0_3, .slice A0_4 l0_4.length c0_4], .slice A1 l1.length c1] w fun e w' => e = .returned (.int .i64 r) ∧ Below w.heap.size w w' := by
  have hu26 := Tryd.underlying26
  have HR0_0 := Aside0.mk hr0_0
  have HC0_0 := Aside0.mk hc0_0
  clear hr0_0 hc0_0
  have HR0_1 := Aside0.mk hr0_1
  have HC0_1 := Aside0.mk hc0_1
  clear hr0_1 hc0_1
  have HR0_4 := Aside0.mk hr0_4
  have HC0_4 := Aside0.mk hc0_4
  clear hr0_4 hc0_4
  have HR1 := Aside0.mk hr1
  have HC1 := Aside0.mk hc1
  clear hr1 hc1
  have HB := Aside0.mk (Below.refl w.heap.size w)
  have H : ((peaveyref11_Tallies.f l0_0 l0_1 a0_2 a0_3 l0_4).bind fun t162 => (peaveyref11_BoundOf.l0 k l1 t162 0 0 l0_0 l0_1 a0_2 a0_3 l0_4)) = some r := h
  clear h
  replace H := Option.bind_eq_some_iff.mp H
  obtain ⟨t162, A30, H⟩ := H
  replace H : (peaveyref11_BoundOf.l0 k l1 t162 0 0 l0_0 l0_1 a0_2 a0_3 l0_4) = some r := H
  have A3 := Aside0.mk A30
  clear A30
  have H' := Aside0.mk H
  clear H
  go_enter Tryd.func58, Tryd.ntmps58
  go_wp2_with (first | ((with_reducible refine gate_dst (N := 2) rfl ?_); refine box_event ?hg (N := 2) ?hd (cs := #[.slice A0_0 l0_0.length c0_0, .slice A0_1 l0_1.length c0_1, .int .i64 a0_2, .int .i64 a0_3, .slice A0_4 l0_4.length c0_4]) (t := 26) ?hr ?_; (case hd => rfl); (case hg => rfl); (case hr => first | (go_simp; done) | (go_simp; rfl)); intro gb161 hg w4 hbox hb; have n0_ := Aside0.mk (below_step (by repeat (first | (with_reducible first | exact HB.out | apply below_alloc | apply pw_below_drewN | apply below_drew1) | exact HB.out)) hb); have n1_ := Aside0.mk (hbox); have n2_ := Aside0.mk ((by rw [hg]; exact (below_size (by repeat (first | (with_reducible first | exact HB.out | apply below_alloc | apply pw_below_drewN | apply below_drew1) | exact HB.out))) : w.heap.size ≤ gb161)); have n3_ := Aside0.mk ((by rw [hg]; exact (below_size (by repeat (first | (with_reducible first | exact HB.out | apply below_alloc | apply pw_below_drewN | apply below_drew1) | exact HB.out))) : w.heap.size ≤ gb161)); clear HB; have HB := n0_; have BK161 := n1_; have GW161 := n2_; have GE161 := n3_; clear n0_ n1_ n2_ n3_; clear hb hbox hg; have hcz5_0 : w4.cell? ⟨gb161, 0, none⟩ = some (.slice A0_0 l0_0.length c0_0) := (blk_cell BK161.out 0).trans rfl; have hcz5_1 : w4.cell? ⟨gb161, 1, none⟩ = some (.slice A0_1 l0_1.length c0_1) := (blk_cell BK161.out 1).trans rfl; have hcz5_2 : w4.cell? ⟨gb161, 2, none⟩ = some (.int .i64 a0_2) := (blk_cell BK161.out 2).trans rfl; have hcz5_3 : w4.cell? ⟨gb161, 3, none⟩ = some (.int .i64 a0_3) := (blk_cell BK161.out 3).trans rfl; have hcz5_4 : w4.cell? ⟨gb161, 4, none⟩ = some (.slice A0_4 l0_4.length c0_4) := (blk_cell BK161.out 4).trans rfl; have hfz5_0 := blk_frozen BK161.out 0; have hfz5_1 := blk_frozen BK161.out 1; have hfz5_2 := blk_frozen BK161.out 2; have hfz5_3 := blk_frozen BK161.out 3; have hfz5_4 := blk_frozen BK161.out 4) | (go_at_call 68; (with_reducible refine (peaveyref11_Tallies.calls _ _ l0_0 _ _ l0_1 a0_2 a0_3 _ _ l0_4 t162 _ ?side1 ?side2 ?side3 ?side4 ?side5 ?side6 A3.out).mono ?_); (case side1 => repeat (first | exact (Kd.C_below HR0_0.out HB.out) | (with_reducible refine Kd.C_alloc ?_ _) | (with_reducible refine Kd.C_drewN ?_ _) | (with_reducible refine Kd.C_drew ?_))); (case side2 => exact HC0_0.out); (case side3 => repeat (first | exact (Kd.C_below HR0_1.out HB.out) | (with_reducible refine Kd.C_alloc ?_ _) | (with_reducible refine Kd.C_drewN ?_ _) | (with_reducible refine Kd.C_drew ?_))); (case side4 => exact HC0_1.out); (case side5 => repeat (first | exact (Kd.C_below HR0_4.out HB.out) | (with_reducible refine Kd.C_alloc ?_ _) | (with_reducible refine Kd.C_drewN ?_ _) | (with_reducible refine Kd.C_drew ?_))); (case side6 => exact HC0_4.out); rintro e w6 ⟨v163, rfl, ho0, hb⟩; have n0_ := Aside0.mk (Kd.R_lower ho0 (below_size (by repeat (first | (with_reducible first | exact HB.out | apply below_alloc | apply pw_below_drewN | apply below_drew1 | refine below_set ?_ GE161.out) | exact HB.out)))); have n1_ := Aside0.mk (blk_below (g := gb161) (o := .cells #[.slice A0_0 l0_0.length c0_0, .slice A0_1 l0_1.length c0_1, .int .i64 a0_2, .int .i64 a0_3, .slice A0_4 l0_4.length c0_4] 26 (0, 0)) (by (with_reducible repeat (first | refine blk_drewN ?_ _ | refine blk_drew ?_ | refine blk_alloc ?_ _)); exact BK161.out) hb); have n2_ := Aside0.mk (below_step (by repeat (first | (with_reducible first | exact HB.out | apply below_alloc | apply pw_below_drewN | apply below_drew1 | refine below_set ?_ GE161.out) | exact HB.out)) hb); clear BK161; clear HB; have HO164 := n0_; have BK161 := n1_; have HB := n2_; clear n0_ n1_ n2_; (try clear hb); (try clear hb2); (try clear hk); (try clear hi); (try clear ho0)))
  repeat (go_quiet (first | ((with_reducible refine gate_dst (N := 2) rfl ?_); refine box_event ?hg (N := 2) ?hd (cs := #[.slice A0_0 l0_0.length c0_0, .slice A0_1 l0_1.length c0_1, .int .i64 a0_2, .int .i64 a0_3, .slice A0_4 l0_4.length c0_4]) (t := 26) ?hr ?_; (case hd => rfl); (case hg => rfl); (case hr => first | (go_simp; done) | (go_simp; rfl)); intro gb161 hg w4 hbox hb; have n0_ := Aside0.mk (below_step (by repeat (first | (with_reducible first | exact HB.out | apply below_alloc | apply pw_below_drewN | apply below_drew1) | exact HB.out)) hb); have n1_ := Aside0.mk (hbox); have n2_ := Aside0.mk ((by rw [hg]; exact (below_size (by repeat (first | (with_reducible first | exact HB.out | apply below_alloc | apply pw_below_drewN | apply below_drew1) | exact HB.out))) : w.heap.size ≤ gb161)); have n3_ := Aside0.mk ((by rw [hg]; exact (below_size (by repeat (first | (with_reducible first | exact HB.out | apply below_alloc | apply pw_below_drewN | apply below_drew1) | exact HB.out))) : w.heap.size ≤ gb161)); clear HB; have HB := n0_; have BK161 := n1_; have GW161 := n2_; have GE161 := n3_; clear n0_ n1_ n2_ n3_; clear hb hbox hg; have hcz5_0 : w4.cell? ⟨gb161, 0, none⟩ = some (.slice A0_0 l0_0.length c0_0) := (blk_cell BK161.out 0).trans rfl; have hcz5_1 : w4.cell? ⟨gb161, 1, none⟩ = some (.slice A0_1 l0_1.length c0_1) := (blk_cell BK161.out 1).trans rfl; have hcz5_2 : w4.cell? ⟨gb161, 2, none⟩ = some (.int .i64 a0_2) := (blk_cell BK161.out 2).trans rfl; have hcz5_3 : w4.cell? ⟨gb161, 3, none⟩ = some (.int .i64 a0_3) := (blk_cell BK161.out 3).trans rfl; have hcz5_4 : w4.cell? ⟨gb161, 4, none⟩ = some (.slice A0_4 l0_4.length c0_4) := (blk_cell BK161.out 4).trans rfl; have hfz5_0 := blk_frozen BK161.out 0; have hfz5_1 := blk_frozen BK161.out 1; have hfz5_2 := blk_frozen BK161.out 2; have hfz5_3 := blk_frozen BK161.out 3; have hfz5_4 := blk_frozen BK161.out 4) | (go_at_call 68; (with_reducible refine (peaveyref11_Tallies.calls _ _ l0_0 _ _ l0_1 a0_2 a0_3 _ _ l0_4 t162 _ ?side1 ?side2 ?side3 ?side4 ?side5 ?side6 A3.out).mono ?_); (case side1 => repeat (first | exact (Kd.C_below HR0_0.out HB.out) | (with_reducible refine Kd.C_alloc ?_ _) | (with_reducible refine Kd.C_drewN ?_ _) | (with_reducible refine Kd.C_drew ?_))); (case side2 => exact HC0_0.out); (case side3 => repeat (first | exact (Kd.C_below HR0_1.out HB.out) | (with_reducible refine Kd.C_alloc ?_ _) | (with_reducible refine Kd.C_drewN ?_ _) | (with_reducible refine Kd.C_drew ?_))); (case side4 => exact HC0_1.out); (case side5 => repeat (first | exact (Kd.C_below HR0_4.out HB.out) | (with_reducible refine Kd.C_alloc ?_ _) | (with_reducible refine Kd.C_drewN ?_ _) | (with_reducible refine Kd.C_drew ?_))); (case side6 => exact HC0_4.out); rintro e w6 ⟨v163, rfl, ho0, hb⟩; have n0_ := Aside0.mk (Kd.R_lower ho0 (below_size (by repeat (first | (with_reducible first | exact HB.out | apply below_alloc | apply pw_below_drewN | apply below_drew1 | refine below_set ?_ GE161.out) | exact HB.out)))); have n1_ := Aside0.mk (blk_below (g := gb161) (o := .cells #[.slice A0_0 l0_0.length c0_0, .slice A0_1 l0_1.length c0_1, .int .i64 a0_2, .int .i64 a0_3, .slice A0_4 l0_4.length c0_4] 26 (0, 0)) (by (with_reducible repeat (first | refine blk_drewN ?_ _ | refine blk_drew ?_ | refine blk_alloc ?_ _)); exact BK161.out) hb); have n2_ := Aside0.mk (below_step (by repeat (first | (with_reducible first | exact HB.out | apply below_alloc | apply pw_below_drewN | apply below_drew1 | refine below_set ?_ GE161.out) | exact HB.out)) hb); clear BK161; clear HB; have HO164 := n0_; have BK161 := n1_; have HB := n2_; clear n0_ n1_ n2_; (try clear hb); (try clear hb2); (try clear hk); (try clear hi); (try clear ho0))); try go_wp2_with (first | ((with_reducible refine gate_dst (N := 2) rfl ?_); refine box_event ?hg (N := 2) ?hd (cs := #[.slice A0_0 l0_0.length c0_0, .slice A0_1 l0_1.length c0_1, .int .i64 a0_2, .int .i64 a0_3, .slice A0_4 l0_4.length c0_4]) (t := 26) ?hr ?_; (case hd => rfl); (case hg => rfl); (case hr => first | (go_simp; done) | (go_simp; rfl)); intro gb161 hg w4 hbox hb; have n0_ := Aside0.mk (below_step (by repeat (first | (with_reducible first | exact HB.out | apply below_alloc | apply pw_below_drewN | apply below_drew1) | exact HB.out)) hb); have n1_ := Aside0.mk (hbox); have n2_ := Aside0.mk ((by rw [hg]; exact (below_size (by repeat (first | (with_reducible first | exact HB.out | apply below_alloc | apply pw_below_drewN | apply below_drew1) | exact HB.out))) : w.heap.size ≤ gb161)); have n3_ := Aside0.mk ((by rw [hg]; exact (below_size (by repeat (first | (with_reducible first | exact HB.out | apply below_alloc | apply pw_below_drewN | apply below_drew1) | exact HB.out))) : w.heap.size ≤ gb161)); clear HB; have HB := n0_; have BK161 := n1_; have GW161 := n2_; have GE161 := n3_; clear n0_ n1_ n2_ n3_; clear hb hbox hg; have hcz5_0 : w4.cell? ⟨gb161, 0, none⟩ = some (.slice A0_0 l0_0.length c0_0) := (blk_cell BK161.out 0).trans rfl; have hcz5_1 : w4.cell? ⟨gb161, 1, none⟩ = some (.slice A0_1 l0_1.length c0_1) := (blk_cell BK161.out 1).trans rfl; have hcz5_2 : w4.cell? ⟨gb161, 2, none⟩ = some (.int .i64 a0_2) := (blk_cell BK161.out 2).trans rfl; have hcz5_3 : w4.cell? ⟨gb161, 3, none⟩ = some (.int .i64 a0_3) := (blk_cell BK161.out 3).trans rfl; have hcz5_4 : w4.cell? ⟨gb161, 4, none⟩ = some (.slice A0_4 l0_4.length c0_4) := (blk_cell BK161.out 4).trans rfl; have hfz5_0 := blk_frozen BK161.out 0; have hfz5_1 := blk_frozen BK161.out 1; have hfz5_2 := blk_frozen BK161.out 2; have hfz5_3 := blk_frozen BK161.out 3; have hfz5_4 := blk_frozen BK161.out 4) | (go_at_call 68; (with_reducible refine (peaveyref11_Tallies.calls _ _ l0_0 _ _ l0_1 a0_2 a0_3 _ _ l0_4 t162 _ ?side1 ?side2 ?side3 ?side4 ?side5 ?side6 A3.out).mono ?_); (case side1 => repeat (first | exact (Kd.C_below HR0_0.out HB.out) | (with_reducible refine Kd.C_alloc ?_ _) | (with_reducible refine Kd.C_drewN ?_ _) | (with_reducible refine Kd.C_drew ?_))); (case side2 => exact HC0_0.out); (case side3 => repeat (first | exact (Kd.C_below HR0_1.out HB.out) | (with_reducible refine Kd.C_alloc ?_ _) | (with_reducible refine Kd.C_drewN ?_ _) | (with_reducible refine Kd.C_drew ?_))); (case side4 => exact HC0_1.out); (case side5 => repeat (first | exact (Kd.C_below HR0_4.out HB.out) | (with_reducible refine Kd.C_alloc ?_ _) | (with_reducible refine Kd.C_drewN ?_ _) | (with_reducible refine Kd.C_drew ?_))); (case side6 => exact HC0_4.out); rintro e w6 ⟨v163, rfl, ho0, hb⟩; have n0_ := Aside0.mk (Kd.R_lower ho0 (below_size (by repeat (first | (with_reducible first | exact HB.out | apply below_alloc | apply pw_below_drewN | apply below_drew1 | refine below_set ?_ GE161.out) | exact HB.out)))); have n1_ := Aside0.mk (blk_below (g := gb161) (o := .cells #[.slice A0_0 l0_0.length c0_0, .slice A0_1 l0_1.length c0_1, .int .i64 a0_2, .int .i64 a0_3, .slice A0_4 l0_4.length c0_4] 26 (0, 0)) (by (with_reducible repeat (first | refine blk_drewN ?_ _ | refine blk_drew ?_ | refine blk_alloc ?_ _)); exact BK161.out) hb); have n2_ := Aside0.mk (below_step (by repeat (first | (with_reducible first | exact HB.out | apply below_alloc | apply pw_below_drewN | apply below_drew1 | refine below_set ?_ GE161.out) | exact HB.out)) hb); clear BK161; clear HB; have HO164 := n0_; have BK161 := n1_; have HB := n2_; clear n0_ n1_ n2_; (try clear hb); (try clear hb2); (try clear hk); (try clear hi); (try clear ho0))))
  go_loopg [6, 7] k (fun kq v6 v7 w' => ∃ (x6_1 : Int) (x7_1 : Int), v6 = .int .i64 x6_1 ∧ v7 = .int .i64 x7_1 ∧ Aside0 (peaveyref11_BoundOf.l0 kq l1 t162 x6_1 x7_1 l0_0 l0_1 a0_2 a0_3 l0_4 = some r) ∧ Aside0 (kq ≤ k) ∧ Aside0 (Kd.R k24 24 w' w.heap.size (fun _ => True) v163 t162) ∧ Aside0 (w'.heap[gb161]? = some (.cells #[(.slice A0_0 l0_0.length c0_0), (.slice A0_1 l0_1.length c0_1), .int .i64 a0_2, .int .i64 a0_3, (.slice A0_4 l0_4.length c0_4)] 26 (0, 0))) ∧ Aside0 (Below w.heap.size w w'))
  case atStart => exact ⟨(0), (0), (by first | rfl | (simp; done) | (simp [*]; done)), (by first | rfl | (simp; done) | (simp [*]; done)), H', ⟨Nat.le_refl _⟩, ⟨by (with_reducible repeat (first | apply Kd.R_alloc | apply Kd.R_drewN | apply Kd.R_drew)); exact HO164.out⟩, ⟨by (with_reducible repeat (first | refine blk_drewN ?_ _ | refine blk_drew ?_ | refine blk_alloc ?_ _)); exact BK161.out⟩, ⟨by repeat (first | (with_reducible first | exact HB.out | apply below_alloc | apply pw_below_drewN | apply below_drew1 | refine below_set ?_ GE161.out) | exact HB.out)⟩⟩
  case round =>
    clear H'
    try clear c1
    try clear p2
    try clear c5
    try clear hcz5_0
    try clear hcz5_1
    try clear hcz5_2
    try clear hcz5_3
    try clear hcz5_4
    try clear hfz5_0
    try clear hfz5_1
    try clear hfz5_2
    try clear hfz5_3
    try clear hfz5_4
    obtain ⟨x6_1, x7_1, rfl, rfl, HA, HK1, HO_5, BK161, HB⟩ := hrel
    cases gk with
    | zero => exact absurd HA.out (by simp [peaveyref11_BoundOf.l0])
    | succ k1 =>
      have H := HA.out
      clear HA
      simp only [peaveyref11_BoundOf.l0] at H
      by_cases c7 : x7_1 < (t162.length : Int)
      · rw [if_pos c7] at H
        have c7b0 : decide (x7_1 < (t162.length : Int)) = true := decide_eq_true c7
        clear c7
        by_cases c8 : 0 ≤ x7_1
        · rw [if_pos c8] at H
          have c8b0 : decide (0 ≤ x7_1) = true := decide_eq_true c8
          clear c8
          by_cases c9 : x7_1 < (l1.length : Int)
          · rw [if_pos c9] at H
            have c9b0 : decide (x7_1 < (l1.length : Int)) = true := decide_eq_true c9
            clear c9
            by_cases c10 : (rd l1 x7_1) > 0
            · rw [if_pos c10] at H
              have c10b0 : decide (0 < (rd l1 x7_1)) = true := decide_eq_true c10
              clear c10
              by_cases c11 : (rd l1 x7_1) < 0
              · rw [if_pos c11] at H
                have c11b0 : decide ((rd l1 x7_1) < 0) = true := decide_eq_true c11
                clear c11
                have H' := Aside0.mk H
                clear H
                obtain ⟨Ao12, co12, eo12⟩ := Kd.R_slice HO_5.out
                subst eo12
                have p165 : 0 ≤ (x7_1 : Int) := of_decide_eq_true (by first | (with_reducible assumption) | assumption)
                have q165 : x7_1 < (l1.length : Int) := of_decide_eq_true (by first | (with_reducible assumption) | assumption)
                obtain ⟨ad165, e165, hx165_0⟩ := Kd.at_int HR1.out x7_1 p165 q165
                cases e165
                replace hx165_0 := (HB.out.cell (World.block_lt_of_cell? w _ hx165_0)).trans hx165_0
                replace p165 := eq_true p165
                replace q165 := eq_true q165
                have p166 : 0 ≤ (x7_1 : Int) := of_decide_eq_true (by first | (with_reducible assumption) | assumption)
                have q166 : x7_1 < (t162.length : Int) := of_decide_eq_true (by first | (with_reducible assumption) | assumption)
                obtain ⟨ad166, e166, hx166_0, hx166_1⟩ := at_T24 (Kd.R_reads' HO_5.out).2.2 x7_1 p166 q166
                cases e166
                replace p166 := eq_true p166
                replace q166 := eq_true q166
                have p167 : 0 ≤ (x7_1 : Int) := of_decide_eq_true (by first | (with_reducible assumption) | assumption)
                have q167 : x7_1 < (l1.length : Int) := of_decide_eq_true (by first | (with_reducible assumption) | assumption)
                obtain ⟨ad167, e167, hx167_0⟩ := Kd.at_int HR1.out x7_1 p167 q167
                obtain rfl : ad165 = ad167 := (by injection e167)
                replace hx167_0 := (HB.out.cell (World.block_lt_of_cell? w _ hx167_0)).trans hx167_0
                replace p167 := eq_true p167
                replace q167 := eq_true q167
                have p168 : 0 ≤ (x7_1 : Int) := of_decide_eq_true (by first | (with_reducible assumption) | assumption)
                have q168 : x7_1 < (t162.length : Int) := of_decide_eq_true (by first | (with_reducible assumption) | assumption)
                obtain ⟨ad168, e168, hx168_0, hx168_1⟩ := at_T24 (Kd.R_reads' HO_5.out).2.2 x7_1 p168 q168
                obtain rfl : ad166 = ad168 := (by injection e168)
                replace p168 := eq_true p168
                replace q168 := eq_true q168
                go_wp2
                repeat (go_quiet (fail); try go_wp2)
                go_roundg k1
                case measure => have := HK1.out; omega
                case rel => exact ⟨(wrap64 ((wrap64 (x6_1 + ((rd_T24 t162 x7_1).f0))) - ((rd_T24 t162 x7_1).f1))), (wrap64 (x7_1 + 1)), (by first | rfl | (simp; done) | (simp [*]; done)), (by first | rfl | (simp; done) | (simp [*]; done)), H', ⟨by have := HK1.out; omega⟩, ⟨by (with_reducible repeat (first | apply Kd.R_alloc | apply Kd.R_drewN | apply Kd.R_drew)); exact HO_5.out⟩, ⟨by (with_reducible repeat (first | refine blk_drewN ?_ _ | refine blk_drew ?_ | refine blk_alloc ?_ _)); exact BK161.out⟩, ⟨by repeat (first | (with_reducible first | exact HB.out | apply below_alloc | apply pw_below_drewN | apply below_drew1 | refine below_set ?_ GE161.out) | exact HB.out)⟩⟩
              · rw [if_neg c11] at H
                have c11b0 : decide ((rd l1 x7_1) < 0) = false := decide_eq_false c11
                clear c11
                have H' := Aside0.mk H
                clear H
                obtain ⟨Ao13, co13, eo13⟩ := Kd.R_slice HO_5.out
                subst eo13
                have p165 : 0 ≤ (x7_1 : Int) := of_decide_eq_true (by first | (with_reducible assumption) | assumption)
                have q165 : x7_1 < (l1.length : Int) := of_decide_eq_true (by first | (with_reducible assumption) | assumption)
                obtain ⟨ad165, e165, hx165_0⟩ := Kd.at_int HR1.out x7_1 p165 q165
                cases e165
                replace hx165_0 := (HB.out.cell (World.block_lt_of_cell? w _ hx165_0)).trans hx165_0
                replace p165 := eq_true p165
                replace q165 := eq_true q165
                have p166 : 0 ≤ (x7_1 : Int) := of_decide_eq_true (by first | (with_reducible assumption) | assumption)
                have q166 : x7_1 < (t162.length : Int) := of_decide_eq_true (by first | (with_reducible assumption) | assumption)
                obtain ⟨ad166, e166, hx166_0, hx166_1⟩ := at_T24 (Kd.R_reads' HO_5.out).2.2 x7_1 p166 q166
                cases e166
                replace p166 := eq_true p166
                replace q166 := eq_true q166
                have p167 : 0 ≤ (x7_1 : Int) := of_decide_eq_true (by first | (with_reducible assumption) | assumption)
                have q167 : x7_1 < (l1.length : Int) := of_decide_eq_true (by first | (with_reducible assumption) | assumption)
                obtain ⟨ad167, e167, hx167_0⟩ := Kd.at_int HR1.out x7_1 p167 q167
                obtain rfl : ad165 = ad167 := (by injection e167)
                replace hx167_0 := (HB.out.cell (World.block_lt_of_cell? w _ hx167_0)).trans hx167_0
                replace p167 := eq_true p167
                replace q167 := eq_true q167
                go_wp2
                repeat (go_quiet (fail); try go_wp2)
                go_roundg k1
                case measure => have := HK1.out; omega
                case rel => exact ⟨(wrap64 (x6_1 + ((rd_T24 t162 x7_1).f0))), (wrap64 (x7_1 + 1)), (by first | rfl | (simp; done) | (simp [*]; done)), (by first | rfl | (simp; done) | (simp [*]; done)), H', ⟨by have := HK1.out; omega⟩, ⟨by (with_reducible repeat (first | apply Kd.R_alloc | apply Kd.R_drewN | apply Kd.R_drew)); exact HO_5.out⟩, ⟨by (with_reducible repeat (first | refine blk_drewN ?_ _ | refine blk_drew ?_ | refine blk_alloc ?_ _)); exact BK161.out⟩, ⟨by repeat (first | (with_reducible first | exact HB.out | apply below_alloc | apply pw_below_drewN | apply below_drew1 | refine below_set ?_ GE161.out) | exact HB.out)⟩⟩
            · rw [if_neg c10] at H
              have c10b0 : decide (0 < (rd l1 x7_1)) = false := decide_eq_false c10
              clear c10
              by_cases c14 : (rd l1 x7_1) < 0
              · rw [if_pos c14] at H
                have c14b0 : decide ((rd l1 x7_1) < 0) = true := decide_eq_true c14
                clear c14
                have H' := Aside0.mk H
                clear H
                obtain ⟨Ao15, co15, eo15⟩ := Kd.R_slice HO_5.out
                subst eo15
                have p165 : 0 ≤ (x7_1 : Int) := of_decide_eq_true (by first | (with_reducible assumption) | assumption)
                have q165 : x7_1 < (l1.length : Int) := of_decide_eq_true (by first | (with_reducible assumption) | assumption)
                obtain ⟨ad165, e165, hx165_0⟩ := Kd.at_int HR1.out x7_1 p165 q165
                cases e165
                replace hx165_0 := (HB.out.cell (World.block_lt_of_cell? w _ hx165_0)).trans hx165_0
                replace p165 := eq_true p165
                replace q165 := eq_true q165
                have p169 : 0 ≤ (x7_1 : Int) := of_decide_eq_true (by first | (with_reducible assumption) | assumption)
                have q169 : x7_1 < (l1.length : Int) := of_decide_eq_true (by first | (with_reducible assumption) | assumption)
                obtain ⟨ad169, e169, hx169_0⟩ := Kd.at_int HR1.out x7_1 p169 q169
                obtain rfl : ad165 = ad169 := (by injection e169)
                replace hx169_0 := (HB.out.cell (World.block_lt_of_cell? w _ hx169_0)).trans hx169_0
                replace p169 := eq_true p169
                replace q169 := eq_true q169
                have p170 : 0 ≤ (x7_1 : Int) := of_decide_eq_true (by first | (with_reducible assumption) | assumption)
                have q170 : x7_1 < (t162.length : Int) := of_decide_eq_true (by first | (with_reducible assumption) | assumption)
                obtain ⟨ad170, e170, hx170_0, hx170_1⟩ := at_T24 (Kd.R_reads' HO_5.out).2.2 x7_1 p170 q170
                cases e170
                replace p170 := eq_true p170
                replace q170 := eq_true q170
                go_wp2
                repeat (go_quiet (fail); try go_wp2)
                go_roundg k1
                case measure => have := HK1.out; omega
                case rel => exact ⟨(wrap64 (x6_1 - ((rd_T24 t162 x7_1).f1))), (wrap64 (x7_1 + 1)), (by first | rfl | (simp; done) | (simp [*]; done)), (by first | rfl | (simp; done) | (simp [*]; done)), H', ⟨by have := HK1.out; omega⟩, ⟨by (with_reducible repeat (first | apply Kd.R_alloc | apply Kd.R_drewN | apply Kd.R_drew)); exact HO_5.out⟩, ⟨by (with_reducible repeat (first | refine blk_drewN ?_ _ | refine blk_drew ?_ | refine blk_alloc ?_ _)); exact BK161.out⟩, ⟨by repeat (first | (with_reducible first | exact HB.out | apply below_alloc | apply pw_below_drewN | apply below_drew1 | refine below_set ?_ GE161.out) | exact HB.out)⟩⟩
              · rw [if_neg c14] at H
                have c14b0 : decide ((rd l1 x7_1) < 0) = false := decide_eq_false c14
                clear c14
                have H' := Aside0.mk H
                clear H
                obtain ⟨Ao16, co16, eo16⟩ := Kd.R_slice HO_5.out
                subst eo16
                have p165 : 0 ≤ (x7_1 : Int) := of_decide_eq_true (by first | (with_reducible assumption) | assumption)
                have q165 : x7_1 < (l1.length : Int) := of_decide_eq_true (by first | (with_reducible assumption) | assumption)
                obtain ⟨ad165, e165, hx165_0⟩ := Kd.at_int HR1.out x7_1 p165 q165
                cases e165
                replace hx165_0 := (HB.out.cell (World.block_lt_of_cell? w _ hx165_0)).trans hx165_0
                replace p165 := eq_true p165
                replace q165 := eq_true q165
                have p169 : 0 ≤ (x7_1 : Int) := of_decide_eq_true (by first | (with_reducible assumption) | assumption)
                have q169 : x7_1 < (l1.length : Int) := of_decide_eq_true (by first | (with_reducible assumption) | assumption)
                obtain ⟨ad169, e169, hx169_0⟩ := Kd.at_int HR1.out x7_1 p169 q169
                obtain rfl : ad165 = ad169 := (by injection e169)
                replace hx169_0 := (HB.out.cell (World.block_lt_of_cell? w _ hx169_0)).trans hx169_0
                replace p169 := eq_true p169
                replace q169 := eq_true q169
                go_wp2
                repeat (go_quiet (fail); try go_wp2)
                go_roundg k1
                case measure => have := HK1.out; omega
                case rel => exact ⟨(x6_1), (wrap64 (x7_1 + 1)), (by first | rfl | (simp; done) | (simp [*]; done)), (by first | rfl | (simp; done) | (simp [*]; done)), H', ⟨by have := HK1.out; omega⟩, ⟨by (with_reducible repeat (first | apply Kd.R_alloc | apply Kd.R_drewN | apply Kd.R_drew)); exact HO_5.out⟩, ⟨by (with_reducible repeat (first | refine blk_drewN ?_ _ | refine blk_drew ?_ | refine blk_alloc ?_ _)); exact BK161.out⟩, ⟨by repeat (first | (with_reducible first | exact HB.out | apply below_alloc | apply pw_below_drewN | apply below_drew1 | refine below_set ?_ GE161.out) | exact HB.out)⟩⟩
          · rw [if_neg c9] at H
            exact absurd H (by simp)
        · rw [if_neg c8] at H
          exact absurd H (by simp)
      · rw [if_neg c7] at H
        have c7b0 : decide (x7_1 < (t162.length : Int)) = false := decide_eq_false c7
        clear c7
        have H' := Aside0.mk H
        clear H
        obtain ⟨Ao17, co17, eo17⟩ := Kd.R_slice HO_5.out
        subst eo17
        have hcz18_0 : wr.cell? ⟨gb161, 0, none⟩ = some (.slice A0_0 l0_0.length c0_0) := (blk_cell BK161.out 0).trans rfl
        have hcz18_1 : wr.cell? ⟨gb161, 1, none⟩ = some (.slice A0_1 l0_1.length c0_1) := (blk_cell BK161.out 1).trans rfl
        have hcz18_2 : wr.cell? ⟨gb161, 2, none⟩ = some (.int .i64 a0_2) := (blk_cell BK161.out 2).trans rfl
        have hcz18_3 : wr.cell? ⟨gb161, 3, none⟩ = some (.int .i64 a0_3) := (blk_cell BK161.out 3).trans rfl
        have hcz18_4 : wr.cell? ⟨gb161, 4, none⟩ = some (.slice A0_4 l0_4.length c0_4) := (blk_cell BK161.out 4).trans rfl
        have hfz18_0 := blk_frozen BK161.out 0
        have hfz18_1 := blk_frozen BK161.out 1
        have hfz18_2 := blk_frozen BK161.out 2
        have hfz18_3 := blk_frozen BK161.out 3
        have hfz18_4 := blk_frozen BK161.out 4
        go_wp2
        repeat (go_quiet (fail); try go_wp2)
        go_loopg [6, 10] k1 (fun kq v6 v10 w' => ∃ (x6_2 : Int) (x10_2 : Int), v6 = .int .i64 x6_2 ∧ v10 = .int .i64 x10_2 ∧ Aside0 (peaveyref11_BoundOf.l1 kq l1 x6_2 (l0_0.length : Int) (l0_1.length : Int) x10_2 l0_0 l0_1 a0_2 a0_3 l0_4 = some r) ∧ Aside0 (kq ≤ k1) ∧ Aside0 (w'.heap[gb161]? = some (.cells #[(.slice A0_0 l0_0.length c0_0), (.slice A0_1 l0_1.length c0_1), .int .i64 a0_2, .int .i64 a0_3, (.slice A0_4 l0_4.length c0_4)] 26 (0, 0))) ∧ Aside0 (Below w.heap.size w w'))
        case atStart => exact ⟨(x6_1), (0), (by first | rfl | (simp; done) | (simp [*]; done)), (by first | rfl | (simp; done) | (simp [*]; done)), H', ⟨Nat.le_refl _⟩, ⟨by (with_reducible repeat (first | refine blk_drewN ?_ _ | refine blk_drew ?_ | refine blk_alloc ?_ _)); exact BK161.out⟩, ⟨by repeat (first | (with_reducible first | exact HB.out | apply below_alloc | apply pw_below_drewN | apply below_drew1 | refine below_set ?_ GE161.out) | exact HB.out)⟩⟩
        case round =>
          clear H'
          try clear c1
          try clear p1
          try clear q1
          try clear hx1
          try clear p2
          try clear c5
          try clear p6
          try clear c7
          try clear c7b0
          try clear c8
          try clear c8b0
          try clear c9
          try clear c9b0
          try clear c10
          try clear c10b0
          try clear c11
          try clear c11b0
          try clear c14
          try clear c14b0
          try clear p16
          try clear q16
          try clear hx16
          try clear p17
          try clear q17
          try clear hx17
          try clear hcz18_0
          try clear hcz18_1
          try clear hcz18_2
          try clear hcz18_3
          try clear hcz18_4
          try clear hcz5_0
          try clear hcz5_1
          try clear hcz5_2
          try clear hcz5_3
          try clear hcz5_4
          try clear hfz18_0
          try clear hfz18_1
          try clear hfz18_2
          try clear hfz18_3
          try clear hfz18_4
          try clear hfz5_0
          try clear hfz5_1
          try clear hfz5_2
          try clear hfz5_3
          try clear hfz5_4
          try clear hx165_0
          try clear hx166_0
          try clear hx166_1
          try clear hx167_0
          try clear hx168_0
          try clear hx168_1
          try clear hx169_0
          try clear hx170_0
          try clear hx170_1
          try clear p165
          try clear p166
          try clear p167
          try clear p168
          try clear p169
          try clear p170
          try clear p2
          try clear q165
          try clear q166
          try clear q167
          try clear q168
          try clear q169
          try clear q170
          obtain ⟨x6_2, x10_2, rfl, rfl, HA, HK2, BK161, HB⟩ := hrel
          cases gk with
          | zero => exact absurd HA.out (by simp [peaveyref11_BoundOf.l1])
          | succ k2 =>
            have H := HA.out
            clear HA
            simp only [peaveyref11_BoundOf.l1] at H
            by_cases c19 : x10_2 < (l0_4.length : Int)
            · rw [if_pos c19] at H
              have c19b0 : decide (x10_2 < (l0_4.length : Int)) = true := decide_eq_true c19
              clear c19
              by_cases c20 : (l0_1.length : Int) = 0
              · rw [if_pos c20] at H
                exact absurd H (by simp)
              · rw [if_neg c20] at H
                have c20b0 : ((l0_1.length : Int) == 0) = false := beq_eq_false_iff_ne.mpr c20
                have c20b1 : ((l0_1.length : Int) != 0) = true := bne_iff_ne.mpr c20
                have c20b2 : ¬ (l0_1 = []) := fun h_ => c20 (by rw [h_]; rfl)
                obtain ⟨ji21, hji21⟩ : ∃ j_ : Int, (wrap64 (Int.tdiv x10_2 (l0_1.length : Int))) = j_ := ⟨_, rfl⟩
                replace H : (if 0 ≤ (ji21) then (if (ji21) < (l1.length : Int) then (if 0 ≤ (wrap64 ((l0_0.length : Int) + (Int.tmod x10_2 (l0_1.length : Int)))) then (if (wrap64 ((l0_0.length : Int) + (Int.tmod x10_2 (l0_1.length : Int)))) < (l1.length : Int) then (if 0 ≤ (wrap64 ((l0_0.length : Int) + (l0_1.length : Int))) then (if (wrap64 ((l0_0.length : Int) + (l0_1.length : Int))) < (l1.length : Int) then (if 0 ≤ x10_2 then (peaveyref11_BoundOf.l1 k2 l1 (wrap64 (x6_2 + (mn (wrap64 ((wrap64 (-(wrap64 ((wrap64 ((rd l1 (ji21)) + (rd l1 (wrap64 ((l0_0.length : Int) + (Int.tmod x10_2 (l0_1.length : Int))))))) + (rd l1 (wrap64 ((l0_0.length : Int) + (l0_1.length : Int)))))))) * ((rd_T24 l0_4 x10_2).f0))) (wrap64 ((wrap64 (-(wrap64 ((wrap64 ((rd l1 (ji21)) + (rd l1 (wrap64 ((l0_0.length : Int) + (Int.tmod x10_2 (l0_1.length : Int))))))) + (rd l1 (wrap64 ((l0_0.length : Int) + (l0_1.length : Int)))))))) * ((rd_T24 l0_4 x10_2).f1)))))) (l0_0.length : Int) (l0_1.length : Int) (wrap64 (x10_2 + 1)) l0_0 l0_1 a0_2 a0_3 l0_4) else (none)) else (none)) else (none)) else (none)) else (none)) else (none)) else (none)) = some r := by first | (rw [hji21] at H; exact H) | (simp only [hji21] at H ⊢; exact H)
                have hji21w : (IntKind.i64.wrap (Int.tdiv x10_2 (l0_1.length : Int))) = ji21 := (i64_w _).trans hji21
                by_cases c22 : 0 ≤ (ji21)
                · rw [if_pos c22] at H
                  have c22b0 : decide (0 ≤ (ji21)) = true := decide_eq_true c22
                  clear c22
                  by_cases c23 : (ji21) < (l1.length : Int)
                  · rw [if_pos c23] at H
                    have c23b0 : decide ((ji21) < (l1.length : Int)) = true := decide_eq_true c23
                    clear c23
                    obtain ⟨ji24, hji24⟩ : ∃ j_ : Int, (wrap64 ((l0_0.length : Int) + (Int.tmod x10_2 (l0_1.length : Int)))) = j_ := ⟨_, rfl⟩
                    replace H : (if 0 ≤ (ji24) then (if (ji24) < (l1.length : Int) then (if 0 ≤ (wrap64 ((l0_0.length : Int) + (l0_1.length : Int))) then (if (wrap64 ((l0_0.length : Int) + (l0_1.length : Int))) < (l1.length : Int) then (if 0 ≤ x10_2 then (peaveyref11_BoundOf.l1 k2 l1 (wrap64 (x6_2 + (mn (wrap64 ((wrap64 (-(wrap64 ((wrap64 ((rd l1 (ji21)) + (rd l1 (ji24)))) + (rd l1 (wrap64 ((l0_0.length : Int) + (l0_1.length : Int)))))))) * ((rd_T24 l0_4 x10_2).f0))) (wrap64 ((wrap64 (-(wrap64 ((wrap64 ((rd l1 (ji21)) + (rd l1 (ji24)))) + (rd l1 (wrap64 ((l0_0.length : Int) + (l0_1.length : Int)))))))) * ((rd_T24 l0_4 x10_2).f1)))))) (l0_0.length : Int) (l0_1.length : Int) (wrap64 (x10_2 + 1)) l0_0 l0_1 a0_2 a0_3 l0_4) else (none)) else (none)) else (none)) else (none)) else (none)) = some r := by first | (rw [hji24] at H; exact H) | (simp only [hji24] at H ⊢; exact H)
                    have hji24w : (IntKind.i64.wrap ((l0_0.length : Int) + (Int.tmod x10_2 (l0_1.length : Int)))) = ji24 := (i64_w _).trans hji24
                    by_cases c25 : 0 ≤ (ji24)
                    · rw [if_pos c25] at H
                      have c25b0 : decide (0 ≤ (ji24)) = true := decide_eq_true c25
                      clear c25
                      by_cases c26 : (ji24) < (l1.length : Int)
                      · rw [if_pos c26] at H
                        have c26b0 : decide ((ji24) < (l1.length : Int)) = true := decide_eq_true c26
                        clear c26
                        obtain ⟨ji27, hji27⟩ : ∃ j_ : Int, (wrap64 ((l0_0.length : Int) + (l0_1.length : Int))) = j_ := ⟨_, rfl⟩
                        replace H : (if 0 ≤ (ji27) then (if (ji27) < (l1.length : Int) then (if 0 ≤ x10_2 then (peaveyref11_BoundOf.l1 k2 l1 (wrap64 (x6_2 + (mn (wrap64 ((wrap64 (-(wrap64 ((wrap64 ((rd l1 (ji21)) + (rd l1 (ji24)))) + (rd l1 (ji27)))))) * ((rd_T24 l0_4 x10_2).f0))) (wrap64 ((wrap64 (-(wrap64 ((wrap64 ((rd l1 (ji21)) + (rd l1 (ji24)))) + (rd l1 (ji27)))))) * ((rd_T24 l0_4 x10_2).f1)))))) (l0_0.length : Int) (l0_1.length : Int) (wrap64 (x10_2 + 1)) l0_0 l0_1 a0_2 a0_3 l0_4) else (none)) else (none)) else (none)) = some r := by first | (rw [hji27] at H; exact H) | (simp only [hji27] at H ⊢; exact H)
                        have hji27w : (IntKind.i64.wrap ((l0_0.length : Int) + (l0_1.length : Int))) = ji27 := (i64_w _).trans hji27
                        by_cases c28 : 0 ≤ (ji27)
                        · rw [if_pos c28] at H
                          have c28b0 : decide (0 ≤ (ji27)) = true := decide_eq_true c28
                          clear c28
                          by_cases c29 : (ji27) < (l1.length : Int)
                          · rw [if_pos c29] at H
                            have c29b0 : decide ((ji27) < (l1.length : Int)) = true := decide_eq_true c29
                            clear c29
                            by_cases c30 : 0 ≤ x10_2
                            · rw [if_pos c30] at H
                              have c30b0 : decide (0 ≤ x10_2) = true := decide_eq_true c30
                              clear c30
                              obtain ⟨ji31, hji31⟩ : ∃ j_ : Int, (mn (wrap64 ((wrap64 (-(wrap64 ((wrap64 ((rd l1 (ji21)) + (rd l1 (ji24)))) + (rd l1 (ji27)))))) * ((rd_T24 l0_4 x10_2).f0))) (wrap64 ((wrap64 (-(wrap64 ((wrap64 ((rd l1 (ji21)) + (rd l1 (ji24)))) + (rd l1 (ji27)))))) * ((rd_T24 l0_4 x10_2).f1)))) = j_ := ⟨_, rfl⟩
                              replace H : (peaveyref11_BoundOf.l1 k2 l1 (wrap64 (x6_2 + (ji31))) (l0_0.length : Int) (l0_1.length : Int) (wrap64 (x10_2 + 1)) l0_0 l0_1 a0_2 a0_3 l0_4) = some r := by first | (rw [hji31] at H; exact H) | (simp only [hji31] at H ⊢; exact H)
                              have hji31_ : (if (wrap64 ((wrap64 (-(wrap64 ((wrap64 ((rd l1 (ji21)) + (rd l1 (ji24)))) + (rd l1 (ji27)))))) * ((rd_T24 l0_4 x10_2).f1))) < (wrap64 ((wrap64 (-(wrap64 ((wrap64 ((rd l1 (ji21)) + (rd l1 (ji24)))) + (rd l1 (ji27)))))) * ((rd_T24 l0_4 x10_2).f0))) then (wrap64 ((wrap64 (-(wrap64 ((wrap64 ((rd l1 (ji21)) + (rd l1 (ji24)))) + (rd l1 (ji27)))))) * ((rd_T24 l0_4 x10_2).f1))) else (wrap64 ((wrap64 (-(wrap64 ((wrap64 ((rd l1 (ji21)) + (rd l1 (ji24)))) + (rd l1 (ji27)))))) * ((rd_T24 l0_4 x10_2).f0)))) = ji31 := hji31
                              have H' := Aside0.mk H
                              clear H
                              have hcz32_0 : wr.cell? ⟨gb161, 0, none⟩ = some (.slice A0_0 l0_0.length c0_0) := (blk_cell BK161.out 0).trans rfl
                              have hcz32_1 : wr.cell? ⟨gb161, 1, none⟩ = some (.slice A0_1 l0_1.length c0_1) := (blk_cell BK161.out 1).trans rfl
                              have hcz32_2 : wr.cell? ⟨gb161, 2, none⟩ = some (.int .i64 a0_2) := (blk_cell BK161.out 2).trans rfl
                              have hcz32_3 : wr.cell? ⟨gb161, 3, none⟩ = some (.int .i64 a0_3) := (blk_cell BK161.out 3).trans rfl
                              have hcz32_4 : wr.cell? ⟨gb161, 4, none⟩ = some (.slice A0_4 l0_4.length c0_4) := (blk_cell BK161.out 4).trans rfl
                              have hfz32_0 := blk_frozen BK161.out 0
                              have hfz32_1 := blk_frozen BK161.out 1
                              have hfz32_2 := blk_frozen BK161.out 2
                              have hfz32_3 := blk_frozen BK161.out 3
                              have hfz32_4 := blk_frozen BK161.out 4
                              have p171 : 0 ≤ ((ji21) : Int) := of_decide_eq_true (by first | (with_reducible assumption) | assumption)
                              have q171 : (ji21) < (l1.length : Int) := of_decide_eq_true (by first | (with_reducible assumption) | assumption)
                              obtain ⟨ad171, e171, hx171_0⟩ := Kd.at_int HR1.out (ji21) p171 q171
                              cases e171
                              replace hx171_0 := (HB.out.cell (World.block_lt_of_cell? w _ hx171_0)).trans hx171_0
                              replace p171 := eq_true p171
                              replace q171 := eq_true q171
                              have p172 : 0 ≤ ((ji24) : Int) := of_decide_eq_true (by first | (with_reducible assumption) | assumption)
                              have q172 : (ji24) < (l1.length : Int) := of_decide_eq_true (by first | (with_reducible assumption) | assumption)
                              obtain ⟨ad172, e172, hx172_0⟩ := Kd.at_int HR1.out (ji24) p172 q172
                              obtain rfl : ad171 = ad172 := (by injection e172)
                              replace hx172_0 := (HB.out.cell (World.block_lt_of_cell? w _ hx172_0)).trans hx172_0
                              replace p172 := eq_true p172
                              replace q172 := eq_true q172
                              have p173 : 0 ≤ ((ji27) : Int) := of_decide_eq_true (by first | (with_reducible assumption) | assumption)
                              have q173 : (ji27) < (l1.length : Int) := of_decide_eq_true (by first | (with_reducible assumption) | assumption)
                              obtain ⟨ad173, e173, hx173_0⟩ := Kd.at_int HR1.out (ji27) p173 q173
                              obtain rfl : ad171 = ad173 := (by injection e173)
                              replace hx173_0 := (HB.out.cell (World.block_lt_of_cell? w _ hx173_0)).trans hx173_0
                              replace p173 := eq_true p173
                              replace q173 := eq_true q173
                              have p174 : 0 ≤ (x10_2 : Int) := of_decide_eq_true (by first | (with_reducible assumption) | assumption)
                              have q174 : x10_2 < (l0_4.length : Int) := of_decide_eq_true (by first | (with_reducible assumption) | assumption)
                              obtain ⟨ad174, e174, hx174_0, hx174_1⟩ := at_T24 HR0_4.out x10_2 p174 q174
                              cases e174
                              replace hx174_0 := (HB.out.cell (World.block_lt_of_cell? w _ hx174_0)).trans hx174_0
                              replace hx174_1 := (HB.out.cell (World.block_lt_of_cell? w _ hx174_1)).trans hx174_1
                              replace p174 := eq_true p174
                              replace q174 := eq_true q174
                              have p175 : 0 ≤ (x10_2 : Int) := of_decide_eq_true (by first | (with_reducible assumption) | assumption)
                              have q175 : x10_2 < (l0_4.length : Int) := of_decide_eq_true (by first | (with_reducible assumption) | assumption)
                              obtain ⟨ad175, e175, hx175_0, hx175_1⟩ := at_T24 HR0_4.out x10_2 p175 q175
                              obtain rfl : ad174 = ad175 := (by injection e175)
                              replace hx175_0 := (HB.out.cell (World.block_lt_of_cell? w _ hx175_0)).trans hx175_0
                              replace hx175_1 := (HB.out.cell (World.block_lt_of_cell? w _ hx175_1)).trans hx175_1
                              replace p175 := eq_true p175
                              replace q175 := eq_true q175
                              go_wp2
                              repeat (go_quiet (fail); try go_wp2)
                              go_roundg k2
                              case measure => have := HK1.out; have := HK2.out; omega
                              case rel => exact ⟨(wrap64 (x6_2 + (ji31))), (wrap64 (x10_2 + 1)), (by first | rfl | (simp; done) | (simp only [← hji31] <;> (first | rfl | simp)) | (simp [*]; done)), (by first | rfl | (simp; done) | (simp [*]; done)), H', ⟨by have := HK1.out; have := HK2.out; omega⟩, ⟨by (with_reducible repeat (first | refine blk_drewN ?_ _ | refine blk_drew ?_ | refine blk_alloc ?_ _)); exact BK161.out⟩, ⟨by repeat (first | (with_reducible first | exact HB.out | apply below_alloc | apply pw_below_drewN | apply below_drew1 | refine below_set ?_ GE161.out) | exact HB.out)⟩⟩
                            · rw [if_neg c30] at H
                              exact absurd H (by simp)
                          · rw [if_neg c29] at H
                            exact absurd H (by simp)
                        · rw [if_neg c28] at H
                          exact absurd H (by simp)
                      · rw [if_neg c26] at H
                        exact absurd H (by simp)
                    · rw [if_neg c25] at H
                      exact absurd H (by simp)
                  · rw [if_neg c23] at H
                    exact absurd H (by simp)
                · rw [if_neg c22] at H
                  exact absurd H (by simp)
            · rw [if_neg c19] at H
              have c19b0 : decide (x10_2 < (l0_4.length : Int)) = false := decide_eq_false c19
              clear c19
              obtain rfl := Option.some.inj H
              have hcz33_0 : wr.cell? ⟨gb161, 0, none⟩ = some (.slice A0_0 l0_0.length c0_0) := (blk_cell BK161.out 0).trans rfl
              have hcz33_1 : wr.cell? ⟨gb161, 1, none⟩ = some (.slice A0_1 l0_1.length c0_1) := (blk_cell BK161.out 1).trans rfl
              have hcz33_2 : wr.cell? ⟨gb161, 2, none⟩ = some (.int .i64 a0_2) := (blk_cell BK161.out 2).trans rfl
              have hcz33_3 : wr.cell? ⟨gb161, 3, none⟩ = some (.int .i64 a0_3) := (blk_cell BK161.out 3).trans rfl
              have hcz33_4 : wr.cell? ⟨gb161, 4, none⟩ = some (.slice A0_4 l0_4.length c0_4) := (blk_cell BK161.out 4).trans rfl
              have hfz33_0 := blk_frozen BK161.out 0
              have hfz33_1 := blk_frozen BK161.out 1
              have hfz33_2 := blk_frozen BK161.out 2
              have hfz33_3 := blk_frozen BK161.out 3
              have hfz33_4 := blk_frozen BK161.out 4
              go_wp2
              repeat (go_quiet (fail); try go_wp2)
              go_ret
              exact ⟨by first | rfl | (simp [errW_none, errW_some] <;> rfl) | (simp [*, errW_none, errW_some] <;> rfl), by repeat (first | (with_reducible first | exact HB.out | apply below_alloc | apply pw_below_drewN | apply below_drew1 | refine below_set ?_ GE161.out) | exact HB.out)⟩
def peaveyref11_CheckWeights.l0 : Nat → List Int → Int → List (S24) → List (S24) → Int → Int → List (S24) → Option (Int × Int)
  | 0, _, _, _, _, _, _, _ => none
  | k + 1, x1, x6, x177000, x177001, x177002, x177003, x177004 => if x6 < (x1.length : Int) then (if 0 ≤ x6 then (if (rd x1 x6) < (-1) then (some (0, 3)) else (if (rd x1 x6) > 1 then (some (0, 3)) else (peaveyref11_CheckWeights.l0 k x1 (wrap64 (x6 + 1)) x177000 x177001 x177002 x177003 x177004))) else (none)) else ((peaveyref11_BoundOf.f k x177000 x177001 x177002 x177003 x177004 x1).bind fun t181 => (some (t181, 0)))
def peaveyref11_CheckWeights.f (k : Nat) (l0_0 : List (S24)) (l0_1 : List (S24)) (a0_2 : Int) (a0_3 : Int) (l0_4 : List (S24)) (l1 : List Int) : Option (Int × Int) := (peaveyref11_CheckSheet.f k l0_0 l0_1 a0_2 a0_3 l0_4).bind fun t177 => (if t177 = 0 then (if (l1.length : Int) = (wrap64 ((wrap64 ((l0_0.length : Int) + (l0_1.length : Int))) + 1)) then (peaveyref11_CheckWeights.l0 k l1 0 l0_0 l0_1 a0_2 a0_3 l0_4) else (some (0, 15))) else ((peaveyref11_CheckSheet.f k l0_0 l0_1 a0_2 a0_3 l0_4).bind fun t178 => (some (0, t178))))
set_option maxHeartbeats 8000000 in
set_option maxRecDepth 100000 in
theorem peaveyref11_CheckWeights.calls (k : Nat) (A0_0 : Option Addr) (c0_0 : Nat) (l0_0 : List (S24)) (A0_1 : Option Addr) (c0_1 : Nat) (l0_1 : List (S24)) (a0_2 : Int) (a0_3 : Int) (A0_4 : Option Addr) (c0_4 : Nat) (l0_4 : List (S24)) (A1 : Option Addr) (c1 : Nat) (l1 : List Int) (r1 : Int) (r2 : Int) (w : World) (hr0_0 : Kd.C k24 w A0_0 l0_0.length l0_0) (hc0_0 : l0_0.length ≤ c0_0) (hr0_1 : Kd.C k24 w A0_1 l0_1.length l0_1) (hc0_1 : l0_1.length ≤ c0_1) (hr0_4 : Kd.C k24 w A0_4 l0_4.length l0_4) (hc0_4 : l0_4.length ≤ c0_4) (hr1 : Kd.C (Kd.int .i64) w A1 l1.length l1) (hc1 : l1.length ≤ c1) (h : peaveyref11_CheckWeights.f k l0_0 l0_1 a0_2 a0_3 l0_4 l1 = some (r1, r2)) :
    Calls Tryd.prog 23 #[.agg #[.slice A0_0 l0_0.length c0_0, .slice A0_1 l0_1.length c0_1, .int .i64 a0_2, .int .i64 a0_3, .slice A0_4 l0_4.length c0_4], .slice A1 l1.length c1] w fun e w' => e = .returned (.tuple #[.int .i64 r1, .int .i64 r2]) ∧ Below w.heap.size w w' := by
  have hu26 := Tryd.underlying26
  have HR0_0 := Aside0.mk hr0_0
  have HC0_0 := Aside0.mk hc0_0
  clear hr0_0 hc0_0
  have HR0_1 := Aside0.mk hr0_1
  have HC0_1 := Aside0.mk hc0_1
  clear hr0_1 hc0_1
  have HR0_4 := Aside0.mk hr0_4
  have HC0_4 := Aside0.mk hc0_4
  clear hr0_4 hc0_4
  have HR1 := Aside0.mk hr1
  have HC1 := Aside0.mk hc1
  clear hr1 hc1
  have HB := Aside0.mk (Below.refl w.heap.size w)
  have H : ((peaveyref11_CheckSheet.f k l0_0 l0_1 a0_2 a0_3 l0_4).bind fun t177 => (if t177 = 0 then (if (l1.length : Int) = (wrap64 ((wrap64 ((l0_0.length : Int) + (l0_1.length : Int))) + 1)) then (peaveyref11_CheckWeights.l0 k l1 0 l0_0 l0_1 a0_2 a0_3 l0_4) else (some (0, 15))) else ((peaveyref11_CheckSheet.f k l0_0 l0_1 a0_2 a0_3 l0_4).bind fun t178 => (some (0, t178))))) = some (r1, r2) := h
  clear h
  replace H := Option.bind_eq_some_iff.mp H
  obtain ⟨t177, A30, H⟩ := H
  replace H : (if t177 = 0 then (if (l1.length : Int) = (wrap64 ((wrap64 ((l0_0.length : Int) + (l0_1.length : Int))) + 1)) then (peaveyref11_CheckWeights.l0 k l1 0 l0_0 l0_1 a0_2 a0_3 l0_4) else (some (0, 15))) else ((peaveyref11_CheckSheet.f k l0_0 l0_1 a0_2 a0_3 l0_4).bind fun t178 => (some (0, t178)))) = some (r1, r2) := H
  have A3 := Aside0.mk A30
  clear A30
  by_cases c4 : t177 = 0
  · rw [if_pos c4] at H
    have c4b0 : (t177 == 0) = true := beq_iff_eq.mpr c4
    have c4b1 : (t177 != 0) = false := bne_eq_false_iff_eq.mpr c4
    clear c4
    by_cases c5 : (l1.length : Int) = (wrap64 ((wrap64 ((l0_0.length : Int) + (l0_1.length : Int))) + 1))
    · rw [if_pos c5] at H
      have c5b0 : ((l1.length : Int) == (wrap64 ((wrap64 ((l0_0.length : Int) + (l0_1.length : Int))) + 1))) = true := beq_iff_eq.mpr c5
      have c5b1 : ((l1.length : Int) != (wrap64 ((wrap64 ((l0_0.length : Int) + (l0_1.length : Int))) + 1))) = false := bne_eq_false_iff_eq.mpr c5
      clear c5
      have H' := Aside0.mk H
      clear H
      go_enter Tryd.func23, Tryd.ntmps23
      go_wp2_with (first | ((with_reducible refine gate_dst (N := 2) rfl ?_); refine box_event ?hg (N := 2) ?hd (cs := #[.slice A0_0 l0_0.length c0_0, .slice A0_1 l0_1.length c0_1, .int .i64 a0_2, .int .i64 a0_3, .slice A0_4 l0_4.length c0_4]) (t := 26) ?hr ?_; (case hd => rfl); (case hg => rfl); (case hr => first | (go_simp; done) | (go_simp; rfl)); intro gb176 hg w6 hbox hb; have n0_ := Aside0.mk (below_step (by repeat (first | (with_reducible first | exact HB.out | apply below_alloc | apply pw_below_drewN | apply below_drew1) | exact HB.out)) hb); have n1_ := Aside0.mk (hbox); have n2_ := Aside0.mk ((by rw [hg]; exact (below_size (by repeat (first | (with_reducible first | exact HB.out | apply below_alloc | apply pw_below_drewN | apply below_drew1) | exact HB.out))) : w.heap.size ≤ gb176)); have n3_ := Aside0.mk ((by rw [hg]; exact (below_size (by repeat (first | (with_reducible first | exact HB.out | apply below_alloc | apply pw_below_drewN | apply below_drew1) | exact HB.out))) : w.heap.size ≤ gb176)); clear HB; have HB := n0_; have BK176 := n1_; have GW176 := n2_; have GE176 := n3_; clear n0_ n1_ n2_ n3_; clear hb hbox hg; have hcz7_0 : w6.cell? ⟨gb176, 0, none⟩ = some (.slice A0_0 l0_0.length c0_0) := (blk_cell BK176.out 0).trans rfl; have hcz7_1 : w6.cell? ⟨gb176, 1, none⟩ = some (.slice A0_1 l0_1.length c0_1) := (blk_cell BK176.out 1).trans rfl; have hcz7_2 : w6.cell? ⟨gb176, 2, none⟩ = some (.int .i64 a0_2) := (blk_cell BK176.out 2).trans rfl; have hcz7_3 : w6.cell? ⟨gb176, 3, none⟩ = some (.int .i64 a0_3) := (blk_cell BK176.out 3).trans rfl; have hcz7_4 : w6.cell? ⟨gb176, 4, none⟩ = some (.slice A0_4 l0_4.length c0_4) := (blk_cell BK176.out 4).trans rfl; have hfz7_0 := blk_frozen BK176.out 0; have hfz7_1 := blk_frozen BK176.out 1; have hfz7_2 := blk_frozen BK176.out 2; have hfz7_3 := blk_frozen BK176.out 3; have hfz7_4 := blk_frozen BK176.out 4) | ((with_reducible refine gate_callee (f := 21) rfl ?_); refine goesL_ (some 8) rfl rfl Tryd.func21 (by kernel_rfl) rfl #[.agg #[.slice A0_0 l0_0.length c0_0, .slice A0_1 l0_1.length c0_1, .int .i64 a0_2, .int .i64 a0_3, .slice A0_4 l0_4.length c0_4]] rfl (by (try simp only [List.map_toArray, List.map_cons, List.map_nil]); first | done | rfl | (simp only [List.length_drop, List.length_take]; rfl)) ?_; (with_reducible refine (peaveyref11_CheckSheet.calls k _ _ l0_0 _ _ l0_1 a0_2 a0_3 _ _ l0_4 t177 _ ?side1 ?side2 ?side3 ?side4 ?side5 ?side6 A3.out).mono ?_); (case side1 => repeat (first | exact (Kd.C_below HR0_0.out HB.out) | (with_reducible refine Kd.C_alloc ?_ _) | (with_reducible refine Kd.C_drewN ?_ _) | (with_reducible refine Kd.C_drew ?_))); (case side2 => exact HC0_0.out); (case side3 => repeat (first | exact (Kd.C_below HR0_1.out HB.out) | (with_reducible refine Kd.C_alloc ?_ _) | (with_reducible refine Kd.C_drewN ?_ _) | (with_reducible refine Kd.C_drew ?_))); (case side4 => exact HC0_1.out); (case side5 => repeat (first | exact (Kd.C_below HR0_4.out HB.out) | (with_reducible refine Kd.C_alloc ?_ _) | (with_reducible refine Kd.C_drewN ?_ _) | (with_reducible refine Kd.C_drew ?_))); (case side6 => exact HC0_4.out); rintro e w8 ⟨rfl, hb⟩; refine ⟨_, rfl, ?_⟩; have n0_ := Aside0.mk (blk_below (g := gb176) (o := .cells #[.slice A0_0 l0_0.length c0_0, .slice A0_1 l0_1.length c0_1, .int .i64 a0_2, .int .i64 a0_3, .slice A0_4 l0_4.length c0_4] 26 (0, 0)) (by (with_reducible repeat (first | refine blk_drewN ?_ _ | refine blk_drew ?_ | refine blk_alloc ?_ _)); exact BK176.out) hb); have n1_ := Aside0.mk (below_step (by repeat (first | (with_reducible first | exact HB.out | apply below_alloc | apply pw_below_drewN | apply below_drew1 | refine below_set ?_ GE176.out) | exact HB.out)) hb); clear BK176; clear HB; have BK176 := n0_; have HB := n1_; clear n0_ n1_; (try clear hb); (try clear hb2); (try clear hk); (try clear hi); have hcz9_0 : w8.cell? ⟨gb176, 0, none⟩ = some (.slice A0_0 l0_0.length c0_0) := (blk_cell BK176.out 0).trans rfl; have hcz9_1 : w8.cell? ⟨gb176, 1, none⟩ = some (.slice A0_1 l0_1.length c0_1) := (blk_cell BK176.out 1).trans rfl; have hcz9_2 : w8.cell? ⟨gb176, 2, none⟩ = some (.int .i64 a0_2) := (blk_cell BK176.out 2).trans rfl; have hcz9_3 : w8.cell? ⟨gb176, 3, none⟩ = some (.int .i64 a0_3) := (blk_cell BK176.out 3).trans rfl; have hcz9_4 : w8.cell? ⟨gb176, 4, none⟩ = some (.slice A0_4 l0_4.length c0_4) := (blk_cell BK176.out 4).trans rfl; have hfz9_0 := blk_frozen BK176.out 0; have hfz9_1 := blk_frozen BK176.out 1; have hfz9_2 := blk_frozen BK176.out 2; have hfz9_3 := blk_frozen BK176.out 3; have hfz9_4 := blk_frozen BK176.out 4))
      go_loopg [6] k (fun kq v6 w' => ∃ (x6_1 : Int), v6 = .int .i64 x6_1 ∧ Aside0 (peaveyref11_CheckWeights.l0 kq l1 x6_1 l0_0 l0_1 a0_2 a0_3 l0_4 = some (r1, r2)) ∧ Aside0 (kq ≤ k) ∧ Aside0 (w'.heap[gb176]? = some (.cells #[(.slice A0_0 l0_0.length c0_0), (.slice A0_1 l0_1.length c0_1), .int .i64 a0_2, .int .i64 a0_3, (.slice A0_4 l0_4.length c0_4)] 26 (0, 0))) ∧ Aside0 (Below w.heap.size w w'))
      case atStart => exact ⟨(0), (by first | rfl | (simp; done) | (simp [*]; done)), H', ⟨Nat.le_refl _⟩, ⟨by (with_reducible repeat (first | refine blk_drewN ?_ _ | refine blk_drew ?_ | refine blk_alloc ?_ _)); exact BK176.out⟩, ⟨by repeat (first | (with_reducible first | exact HB.out | apply below_alloc | apply pw_below_drewN | apply below_drew1 | refine below_set ?_ GE176.out) | exact HB.out)⟩⟩
      case round =>
        clear H'
        try clear c1
        try clear c2
        try clear p2
        try clear c4
        try clear c4b0
        try clear c4b1
        try clear c5
        try clear c5b0
        try clear c5b1
        try clear p6
        try clear hcz7_0
        try clear hcz7_1
        try clear hcz7_2
        try clear hcz7_3
        try clear hcz7_4
        try clear hcz9_0
        try clear hcz9_1
        try clear hcz9_2
        try clear hcz9_3
        try clear hcz9_4
        try clear hfz7_0
        try clear hfz7_1
        try clear hfz7_2
        try clear hfz7_3
        try clear hfz7_4
        try clear hfz9_0
        try clear hfz9_1
        try clear hfz9_2
        try clear hfz9_3
        try clear hfz9_4
        obtain ⟨x6_1, rfl, HA, HK1, BK176, HB⟩ := hrel
        cases gk with
        | zero => exact absurd HA.out (by simp [peaveyref11_CheckWeights.l0])
        | succ k1 =>
          have H := HA.out
          clear HA
          simp only [peaveyref11_CheckWeights.l0] at H
          by_cases c10 : x6_1 < (l1.length : Int)
          · rw [if_pos c10] at H
            have c10b0 : decide (x6_1 < (l1.length : Int)) = true := decide_eq_true c10
            clear c10
            by_cases c11 : 0 ≤ x6_1
            · rw [if_pos c11] at H
              have c11b0 : decide (0 ≤ x6_1) = true := decide_eq_true c11
              clear c11
              by_cases c12 : (rd l1 x6_1) < (-1)
              · rw [if_pos c12] at H
                have c12b0 : decide ((rd l1 x6_1) < (-1)) = true := decide_eq_true c12
                clear c12
                simp only [Option.some.injEq, Prod.mk.injEq] at H
                obtain ⟨rfl, rfl⟩ := H
                have p179 : 0 ≤ (x6_1 : Int) := of_decide_eq_true (by first | (with_reducible assumption) | assumption)
                have q179 : x6_1 < (l1.length : Int) := of_decide_eq_true (by first | (with_reducible assumption) | assumption)
                obtain ⟨ad179, e179, hx179_0⟩ := Kd.at_int HR1.out x6_1 p179 q179
                cases e179
                replace hx179_0 := (HB.out.cell (World.block_lt_of_cell? w _ hx179_0)).trans hx179_0
                replace p179 := eq_true p179
                replace q179 := eq_true q179
                go_wp2
                go_ret2
                exact ⟨by first | rfl | (simp [errW_none, errW_some] <;> rfl) | (simp [*, errW_none, errW_some] <;> rfl), by repeat (first | (with_reducible first | exact HB.out | apply below_alloc | apply pw_below_drewN | apply below_drew1 | refine below_set ?_ GE176.out) | exact HB.out)⟩
              · rw [if_neg c12] at H
                have c12b0 : decide ((rd l1 x6_1) < (-1)) = false := decide_eq_false c12
                clear c12
                by_cases c13 : (rd l1 x6_1) > 1
                · rw [if_pos c13] at H
                  have c13b0 : decide (1 < (rd l1 x6_1)) = true := decide_eq_true c13
                  clear c13
                  simp only [Option.some.injEq, Prod.mk.injEq] at H
                  obtain ⟨rfl, rfl⟩ := H
                  have p179 : 0 ≤ (x6_1 : Int) := of_decide_eq_true (by first | (with_reducible assumption) | assumption)
                  have q179 : x6_1 < (l1.length : Int) := of_decide_eq_true (by first | (with_reducible assumption) | assumption)
                  obtain ⟨ad179, e179, hx179_0⟩ := Kd.at_int HR1.out x6_1 p179 q179
                  cases e179
                  replace hx179_0 := (HB.out.cell (World.block_lt_of_cell? w _ hx179_0)).trans hx179_0
                  replace p179 := eq_true p179
                  replace q179 := eq_true q179
                  have p180 : 0 ≤ (x6_1 : Int) := of_decide_eq_true (by first | (with_reducible assumption) | assumption)
                  have q180 : x6_1 < (l1.length : Int) := of_decide_eq_true (by first | (with_reducible assumption) | assumption)
                  obtain ⟨ad180, e180, hx180_0⟩ := Kd.at_int HR1.out x6_1 p180 q180
                  obtain rfl : ad179 = ad180 := (by injection e180)
                  replace hx180_0 := (HB.out.cell (World.block_lt_of_cell? w _ hx180_0)).trans hx180_0
                  replace p180 := eq_true p180
                  replace q180 := eq_true q180
                  go_wp2
                  go_ret2
                  exact ⟨by first | rfl | (simp [errW_none, errW_some] <;> rfl) | (simp [*, errW_none, errW_some] <;> rfl), by repeat (first | (with_reducible first | exact HB.out | apply below_alloc | apply pw_below_drewN | apply below_drew1 | refine below_set ?_ GE176.out) | exact HB.out)⟩
                · rw [if_neg c13] at H
                  have c13b0 : decide (1 < (rd l1 x6_1)) = false := decide_eq_false c13
                  clear c13
                  have H' := Aside0.mk H
                  clear H
                  have p179 : 0 ≤ (x6_1 : Int) := of_decide_eq_true (by first | (with_reducible assumption) | assumption)
                  have q179 : x6_1 < (l1.length : Int) := of_decide_eq_true (by first | (with_reducible assumption) | assumption)
                  obtain ⟨ad179, e179, hx179_0⟩ := Kd.at_int HR1.out x6_1 p179 q179
                  cases e179
                  replace hx179_0 := (HB.out.cell (World.block_lt_of_cell? w _ hx179_0)).trans hx179_0
                  replace p179 := eq_true p179
                  replace q179 := eq_true q179
                  have p180 : 0 ≤ (x6_1 : Int) := of_decide_eq_true (by first | (with_reducible assumption) | assumption)
                  have q180 : x6_1 < (l1.length : Int) := of_decide_eq_true (by first | (with_reducible assumption) | assumption)
                  obtain ⟨ad180, e180, hx180_0⟩ := Kd.at_int HR1.out x6_1 p180 q180
                  obtain rfl : ad179 = ad180 := (by injection e180)
                  replace hx180_0 := (HB.out.cell (World.block_lt_of_cell? w _ hx180_0)).trans hx180_0
                  replace p180 := eq_true p180
                  replace q180 := eq_true q180
                  go_wp2
                  go_roundg k1
                  case measure => have := HK1.out; omega
                  case rel => exact ⟨(wrap64 (x6_1 + 1)), (by first | rfl | (simp; done) | (simp [*]; done)), H', ⟨by have := HK1.out; omega⟩, ⟨by (with_reducible repeat (first | refine blk_drewN ?_ _ | refine blk_drew ?_ | refine blk_alloc ?_ _)); exact BK176.out⟩, ⟨by repeat (first | (with_reducible first | exact HB.out | apply below_alloc | apply pw_below_drewN | apply below_drew1 | refine below_set ?_ GE176.out) | exact HB.out)⟩⟩
            · rw [if_neg c11] at H
              exact absurd H (by simp)
          · rw [if_neg c10] at H
            have c10b0 : decide (x6_1 < (l1.length : Int)) = false := decide_eq_false c10
            clear c10
            replace H := Option.bind_eq_some_iff.mp H
            obtain ⟨t181, A140, H⟩ := H
            replace H : (some (t181, 0)) = some (r1, r2) := H
            have A14 := Aside0.mk A140
            clear A140
            simp only [Option.some.injEq, Prod.mk.injEq] at H
            obtain ⟨rfl, rfl⟩ := H
            have hcz15_0 : wr.cell? ⟨gb176, 0, none⟩ = some (.slice A0_0 l0_0.length c0_0) := (blk_cell BK176.out 0).trans rfl
            have hcz15_1 : wr.cell? ⟨gb176, 1, none⟩ = some (.slice A0_1 l0_1.length c0_1) := (blk_cell BK176.out 1).trans rfl
            have hcz15_2 : wr.cell? ⟨gb176, 2, none⟩ = some (.int .i64 a0_2) := (blk_cell BK176.out 2).trans rfl
            have hcz15_3 : wr.cell? ⟨gb176, 3, none⟩ = some (.int .i64 a0_3) := (blk_cell BK176.out 3).trans rfl
            have hcz15_4 : wr.cell? ⟨gb176, 4, none⟩ = some (.slice A0_4 l0_4.length c0_4) := (blk_cell BK176.out 4).trans rfl
            have hfz15_0 := blk_frozen BK176.out 0
            have hfz15_1 := blk_frozen BK176.out 1
            have hfz15_2 := blk_frozen BK176.out 2
            have hfz15_3 := blk_frozen BK176.out 3
            have hfz15_4 := blk_frozen BK176.out 4
            go_wp2_with (first | ((with_reducible refine gate_callee (f := 58) rfl ?_); refine goesL_ (some 43) rfl rfl Tryd.func58 (by kernel_rfl) rfl #[.agg #[.slice A0_0 l0_0.length c0_0, .slice A0_1 l0_1.length c0_1, .int .i64 a0_2, .int .i64 a0_3, .slice A0_4 l0_4.length c0_4], .slice A1 l1.length c1] rfl (by (try simp only [List.map_toArray, List.map_cons, List.map_nil]); first | done | rfl | (simp only [List.length_drop, List.length_take]; rfl)) ?_; (with_reducible refine (peaveyref11_BoundOf.calls k1 _ _ l0_0 _ _ l0_1 a0_2 a0_3 _ _ l0_4 _ _ l1 t181 _ ?side1 ?side2 ?side3 ?side4 ?side5 ?side6 ?side7 ?side8 A14.out).mono ?_); (case side1 => repeat (first | exact (Kd.C_below HR0_0.out HB.out) | (with_reducible refine Kd.C_alloc ?_ _) | (with_reducible refine Kd.C_drewN ?_ _) | (with_reducible refine Kd.C_drew ?_))); (case side2 => exact HC0_0.out); (case side3 => repeat (first | exact (Kd.C_below HR0_1.out HB.out) | (with_reducible refine Kd.C_alloc ?_ _) | (with_reducible refine Kd.C_drewN ?_ _) | (with_reducible refine Kd.C_drew ?_))); (case side4 => exact HC0_1.out); (case side5 => repeat (first | exact (Kd.C_below HR0_4.out HB.out) | (with_reducible refine Kd.C_alloc ?_ _) | (with_reducible refine Kd.C_drewN ?_ _) | (with_reducible refine Kd.C_drew ?_))); (case side6 => exact HC0_4.out); (case side7 => repeat (first | exact (Kd.C_below HR1.out HB.out) | (with_reducible refine Kd.C_alloc ?_ _) | (with_reducible refine Kd.C_drewN ?_ _) | (with_reducible refine Kd.C_drew ?_))); (case side8 => exact HC1.out); rintro e w16 ⟨rfl, hb⟩; refine ⟨_, rfl, ?_⟩; have n0_ := Aside0.mk (blk_below (g := gb176) (o := .cells #[.slice A0_0 l0_0.length c0_0, .slice A0_1 l0_1.length c0_1, .int .i64 a0_2, .int .i64 a0_3, .slice A0_4 l0_4.length c0_4] 26 (0, 0)) (by (with_reducible repeat (first | refine blk_drewN ?_ _ | refine blk_drew ?_ | refine blk_alloc ?_ _)); exact BK176.out) hb); have n1_ := Aside0.mk (below_step (by repeat (first | (with_reducible first | exact HB.out | apply below_alloc | apply pw_below_drewN | apply below_drew1 | refine below_set ?_ GE176.out) | exact HB.out)) hb); clear BK176; clear HB; have BK176 := n0_; have HB := n1_; clear n0_ n1_; (try clear hb); (try clear hb2); (try clear hk); (try clear hi)))
            go_ret2
            exact ⟨by first | rfl | (simp [errW_none, errW_some] <;> rfl) | (simp [*, errW_none, errW_some] <;> rfl), by repeat (first | (with_reducible first | exact HB.out | apply below_alloc | apply pw_below_drewN | apply below_drew1 | refine below_set ?_ GE176.out) | exact HB.out)⟩
    · rw [if_neg c5] at H
      have c5b0 : ((l1.length : Int) == (wrap64 ((wrap64 ((l0_0.length : Int) + (l0_1.length : Int))) + 1))) = false := beq_eq_false_iff_ne.mpr c5
      have c5b1 : ((l1.length : Int) != (wrap64 ((wrap64 ((l0_0.length : Int) + (l0_1.length : Int))) + 1))) = true := bne_iff_ne.mpr c5
      simp only [Option.some.injEq, Prod.mk.injEq] at H
      obtain ⟨rfl, rfl⟩ := H
      go_enter Tryd.func23, Tryd.ntmps23
      go_wp2_with (first | ((with_reducible refine gate_dst (N := 2) rfl ?_); refine box_event ?hg (N := 2) ?hd (cs := #[.slice A0_0 l0_0.length c0_0, .slice A0_1 l0_1.length c0_1, .int .i64 a0_2, .int .i64 a0_3, .slice A0_4 l0_4.length c0_4]) (t := 26) ?hr ?_; (case hd => rfl); (case hg => rfl); (case hr => first | (go_simp; done) | (go_simp; rfl)); intro gb176 hg w17 hbox hb; have n0_ := Aside0.mk (below_step (by repeat (first | (with_reducible first | exact HB.out | apply below_alloc | apply pw_below_drewN | apply below_drew1) | exact HB.out)) hb); have n1_ := Aside0.mk (hbox); have n2_ := Aside0.mk ((by rw [hg]; exact (below_size (by repeat (first | (with_reducible first | exact HB.out | apply below_alloc | apply pw_below_drewN | apply below_drew1) | exact HB.out))) : w.heap.size ≤ gb176)); have n3_ := Aside0.mk ((by rw [hg]; exact (below_size (by repeat (first | (with_reducible first | exact HB.out | apply below_alloc | apply pw_below_drewN | apply below_drew1) | exact HB.out))) : w.heap.size ≤ gb176)); clear HB; have HB := n0_; have BK176 := n1_; have GW176 := n2_; have GE176 := n3_; clear n0_ n1_ n2_ n3_; clear hb hbox hg; have hcz18_0 : w17.cell? ⟨gb176, 0, none⟩ = some (.slice A0_0 l0_0.length c0_0) := (blk_cell BK176.out 0).trans rfl; have hcz18_1 : w17.cell? ⟨gb176, 1, none⟩ = some (.slice A0_1 l0_1.length c0_1) := (blk_cell BK176.out 1).trans rfl; have hcz18_2 : w17.cell? ⟨gb176, 2, none⟩ = some (.int .i64 a0_2) := (blk_cell BK176.out 2).trans rfl; have hcz18_3 : w17.cell? ⟨gb176, 3, none⟩ = some (.int .i64 a0_3) := (blk_cell BK176.out 3).trans rfl; have hcz18_4 : w17.cell? ⟨gb176, 4, none⟩ = some (.slice A0_4 l0_4.length c0_4) := (blk_cell BK176.out 4).trans rfl; have hfz18_0 := blk_frozen BK176.out 0; have hfz18_1 := blk_frozen BK176.out 1; have hfz18_2 := blk_frozen BK176.out 2; have hfz18_3 := blk_frozen BK176.out 3; have hfz18_4 := blk_frozen BK176.out 4) | ((with_reducible refine gate_callee (f := 21) rfl ?_); refine goesL_ (some 8) rfl rfl Tryd.func21 (by kernel_rfl) rfl #[.agg #[.slice A0_0 l0_0.length c0_0, .slice A0_1 l0_1.length c0_1, .int .i64 a0_2, .int .i64 a0_3, .slice A0_4 l0_4.length c0_4]] rfl (by (try simp only [List.map_toArray, List.map_cons, List.map_nil]); first | done | rfl | (simp only [List.length_drop, List.length_take]; rfl)) ?_; (with_reducible refine (peaveyref11_CheckSheet.calls k _ _ l0_0 _ _ l0_1 a0_2 a0_3 _ _ l0_4 t177 _ ?side1 ?side2 ?side3 ?side4 ?side5 ?side6 A3.out).mono ?_); (case side1 => repeat (first | exact (Kd.C_below HR0_0.out HB.out) | (with_reducible refine Kd.C_alloc ?_ _) | (with_reducible refine Kd.C_drewN ?_ _) | (with_reducible refine Kd.C_drew ?_))); (case side2 => exact HC0_0.out); (case side3 => repeat (first | exact (Kd.C_below HR0_1.out HB.out) | (with_reducible refine Kd.C_alloc ?_ _) | (with_reducible refine Kd.C_drewN ?_ _) | (with_reducible refine Kd.C_drew ?_))); (case side4 => exact HC0_1.out); (case side5 => repeat (first | exact (Kd.C_below HR0_4.out HB.out) | (with_reducible refine Kd.C_alloc ?_ _) | (with_reducible refine Kd.C_drewN ?_ _) | (with_reducible refine Kd.C_drew ?_))); (case side6 => exact HC0_4.out); rintro e w19 ⟨rfl, hb⟩; refine ⟨_, rfl, ?_⟩; have n0_ := Aside0.mk (blk_below (g := gb176) (o := .cells #[.slice A0_0 l0_0.length c0_0, .slice A0_1 l0_1.length c0_1, .int .i64 a0_2, .int .i64 a0_3, .slice A0_4 l0_4.length c0_4] 26 (0, 0)) (by (with_reducible repeat (first | refine blk_drewN ?_ _ | refine blk_drew ?_ | refine blk_alloc ?_ _)); exact BK176.out) hb); have n1_ := Aside0.mk (below_step (by repeat (first | (with_reducible first | exact HB.out | apply below_alloc | apply pw_below_drewN | apply below_drew1 | refine below_set ?_ GE176.out) | exact HB.out)) hb); clear BK176; clear HB; have BK176 := n0_; have HB := n1_; clear n0_ n1_; (try clear hb); (try clear hb2); (try clear hk); (try clear hi); have hcz20_0 : w19.cell? ⟨gb176, 0, none⟩ = some (.slice A0_0 l0_0.length c0_0) := (blk_cell BK176.out 0).trans rfl; have hcz20_1 : w19.cell? ⟨gb176, 1, none⟩ = some (.slice A0_1 l0_1.length c0_1) := (blk_cell BK176.out 1).trans rfl; have hcz20_2 : w19.cell? ⟨gb176, 2, none⟩ = some (.int .i64 a0_2) := (blk_cell BK176.out 2).trans rfl; have hcz20_3 : w19.cell? ⟨gb176, 3, none⟩ = some (.int .i64 a0_3) := (blk_cell BK176.out 3).trans rfl; have hcz20_4 : w19.cell? ⟨gb176, 4, none⟩ = some (.slice A0_4 l0_4.length c0_4) := (blk_cell BK176.out 4).trans rfl; have hfz20_0 := blk_frozen BK176.out 0; have hfz20_1 := blk_frozen BK176.out 1; have hfz20_2 := blk_frozen BK176.out 2; have hfz20_3 := blk_frozen BK176.out 3; have hfz20_4 := blk_frozen BK176.out 4))
      go_ret2
      exact ⟨by first | rfl | (simp [errW_none, errW_some] <;> rfl) | (simp [*, errW_none, errW_some] <;> rfl), by repeat (first | (with_reducible first | exact HB.out | apply below_alloc | apply pw_below_drewN | apply below_drew1 | refine below_set ?_ GE176.out) | exact HB.out)⟩
  · rw [if_neg c4] at H
    have c4b0 : (t177 == 0) = false := beq_eq_false_iff_ne.mpr c4
    have c4b1 : (t177 != 0) = true := bne_iff_ne.mpr c4
    replace H := Option.bind_eq_some_iff.mp H
    obtain ⟨t178, A210, H⟩ := H
    replace H : (some (0, t178)) = some (r1, r2) := H
    have A21 := Aside0.mk A210
    clear A210
    have EA21 := Aside0.mk (Option.some.inj (A3.out.symm.trans A21.out))
    simp only [Option.some.injEq, Prod.mk.injEq] at H
    obtain ⟨rfl, rfl⟩ := H
    go_enter Tryd.func23, Tryd.ntmps23
    go_wp2_with (first | ((with_reducible refine gate_dst (N := 2) rfl ?_); refine box_event ?hg (N := 2) ?hd (cs := #[.slice A0_0 l0_0.length c0_0, .slice A0_1 l0_1.length c0_1, .int .i64 a0_2, .int .i64 a0_3, .slice A0_4 l0_4.length c0_4]) (t := 26) ?hr ?_; (case hd => rfl); (case hg => rfl); (case hr => first | (go_simp; done) | (go_simp; rfl)); intro gb176 hg w22 hbox hb; have n0_ := Aside0.mk (below_step (by repeat (first | (with_reducible first | exact HB.out | apply below_alloc | apply pw_below_drewN | apply below_drew1) | exact HB.out)) hb); have n1_ := Aside0.mk (hbox); have n2_ := Aside0.mk ((by rw [hg]; exact (below_size (by repeat (first | (with_reducible first | exact HB.out | apply below_alloc | apply pw_below_drewN | apply below_drew1) | exact HB.out))) : w.heap.size ≤ gb176)); have n3_ := Aside0.mk ((by rw [hg]; exact (below_size (by repeat (first | (with_reducible first | exact HB.out | apply below_alloc | apply pw_below_drewN | apply below_drew1) | exact HB.out))) : w.heap.size ≤ gb176)); clear HB; have HB := n0_; have BK176 := n1_; have GW176 := n2_; have GE176 := n3_; clear n0_ n1_ n2_ n3_; clear hb hbox hg; have hcz23_0 : w22.cell? ⟨gb176, 0, none⟩ = some (.slice A0_0 l0_0.length c0_0) := (blk_cell BK176.out 0).trans rfl; have hcz23_1 : w22.cell? ⟨gb176, 1, none⟩ = some (.slice A0_1 l0_1.length c0_1) := (blk_cell BK176.out 1).trans rfl; have hcz23_2 : w22.cell? ⟨gb176, 2, none⟩ = some (.int .i64 a0_2) := (blk_cell BK176.out 2).trans rfl; have hcz23_3 : w22.cell? ⟨gb176, 3, none⟩ = some (.int .i64 a0_3) := (blk_cell BK176.out 3).trans rfl; have hcz23_4 : w22.cell? ⟨gb176, 4, none⟩ = some (.slice A0_4 l0_4.length c0_4) := (blk_cell BK176.out 4).trans rfl; have hfz23_0 := blk_frozen BK176.out 0; have hfz23_1 := blk_frozen BK176.out 1; have hfz23_2 := blk_frozen BK176.out 2; have hfz23_3 := blk_frozen BK176.out 3; have hfz23_4 := blk_frozen BK176.out 4) | ((with_reducible refine gate_callee (f := 21) rfl ?_); refine goesL_ (some 8) rfl rfl Tryd.func21 (by kernel_rfl) rfl #[.agg #[.slice A0_0 l0_0.length c0_0, .slice A0_1 l0_1.length c0_1, .int .i64 a0_2, .int .i64 a0_3, .slice A0_4 l0_4.length c0_4]] rfl (by (try simp only [List.map_toArray, List.map_cons, List.map_nil]); first | done | rfl | (simp only [List.length_drop, List.length_take]; rfl)) ?_; (with_reducible refine (peaveyref11_CheckSheet.calls k _ _ l0_0 _ _ l0_1 a0_2 a0_3 _ _ l0_4 t177 _ ?side1 ?side2 ?side3 ?side4 ?side5 ?side6 A3.out).mono ?_); (case side1 => repeat (first | exact (Kd.C_below HR0_0.out HB.out) | (with_reducible refine Kd.C_alloc ?_ _) | (with_reducible refine Kd.C_drewN ?_ _) | (with_reducible refine Kd.C_drew ?_))); (case side2 => exact HC0_0.out); (case side3 => repeat (first | exact (Kd.C_below HR0_1.out HB.out) | (with_reducible refine Kd.C_alloc ?_ _) | (with_reducible refine Kd.C_drewN ?_ _) | (with_reducible refine Kd.C_drew ?_))); (case side4 => exact HC0_1.out); (case side5 => repeat (first | exact (Kd.C_below HR0_4.out HB.out) | (with_reducible refine Kd.C_alloc ?_ _) | (with_reducible refine Kd.C_drewN ?_ _) | (with_reducible refine Kd.C_drew ?_))); (case side6 => exact HC0_4.out); rintro e w24 ⟨rfl, hb⟩; refine ⟨_, rfl, ?_⟩; have n0_ := Aside0.mk (blk_below (g := gb176) (o := .cells #[.slice A0_0 l0_0.length c0_0, .slice A0_1 l0_1.length c0_1, .int .i64 a0_2, .int .i64 a0_3, .slice A0_4 l0_4.length c0_4] 26 (0, 0)) (by (with_reducible repeat (first | refine blk_drewN ?_ _ | refine blk_drew ?_ | refine blk_alloc ?_ _)); exact BK176.out) hb); have n1_ := Aside0.mk (below_step (by repeat (first | (with_reducible first | exact HB.out | apply below_alloc | apply pw_below_drewN | apply below_drew1 | refine below_set ?_ GE176.out) | exact HB.out)) hb); clear BK176; clear HB; have BK176 := n0_; have HB := n1_; clear n0_ n1_; (try clear hb); (try clear hb2); (try clear hk); (try clear hi); have hcz25_0 : w24.cell? ⟨gb176, 0, none⟩ = some (.slice A0_0 l0_0.length c0_0) := (blk_cell BK176.out 0).trans rfl; have hcz25_1 : w24.cell? ⟨gb176, 1, none⟩ = some (.slice A0_1 l0_1.length c0_1) := (blk_cell BK176.out 1).trans rfl; have hcz25_2 : w24.cell? ⟨gb176, 2, none⟩ = some (.int .i64 a0_2) := (blk_cell BK176.out 2).trans rfl; have hcz25_3 : w24.cell? ⟨gb176, 3, none⟩ = some (.int .i64 a0_3) := (blk_cell BK176.out 3).trans rfl; have hcz25_4 : w24.cell? ⟨gb176, 4, none⟩ = some (.slice A0_4 l0_4.length c0_4) := (blk_cell BK176.out 4).trans rfl; have hfz25_0 := blk_frozen BK176.out 0; have hfz25_1 := blk_frozen BK176.out 1; have hfz25_2 := blk_frozen BK176.out 2; have hfz25_3 := blk_frozen BK176.out 3; have hfz25_4 := blk_frozen BK176.out 4) | ((with_reducible refine gate_callee (f := 21) rfl ?_); refine goesL_ (some 11) rfl rfl Tryd.func21 (by kernel_rfl) rfl #[.agg #[.slice A0_0 l0_0.length c0_0, .slice A0_1 l0_1.length c0_1, .int .i64 a0_2, .int .i64 a0_3, .slice A0_4 l0_4.length c0_4]] rfl (by (try simp only [List.map_toArray, List.map_cons, List.map_nil]); first | done | rfl | (simp only [List.length_drop, List.length_take]; rfl)) ?_; (with_reducible refine (peaveyref11_CheckSheet.calls k _ _ l0_0 _ _ l0_1 a0_2 a0_3 _ _ l0_4 t178 _ ?side1 ?side2 ?side3 ?side4 ?side5 ?side6 A21.out).mono ?_); (case side1 => repeat (first | exact (Kd.C_below HR0_0.out HB.out) | (with_reducible refine Kd.C_alloc ?_ _) | (with_reducible refine Kd.C_drewN ?_ _) | (with_reducible refine Kd.C_drew ?_))); (case side2 => exact HC0_0.out); (case side3 => repeat (first | exact (Kd.C_below HR0_1.out HB.out) | (with_reducible refine Kd.C_alloc ?_ _) | (with_reducible refine Kd.C_drewN ?_ _) | (with_reducible refine Kd.C_drew ?_))); (case side4 => exact HC0_1.out); (case side5 => repeat (first | exact (Kd.C_below HR0_4.out HB.out) | (with_reducible refine Kd.C_alloc ?_ _) | (with_reducible refine Kd.C_drewN ?_ _) | (with_reducible refine Kd.C_drew ?_))); (case side6 => exact HC0_4.out); rintro e w26 ⟨rfl, hb⟩; refine ⟨_, rfl, ?_⟩; have n0_ := Aside0.mk (blk_below (g := gb176) (o := .cells #[.slice A0_0 l0_0.length c0_0, .slice A0_1 l0_1.length c0_1, .int .i64 a0_2, .int .i64 a0_3, .slice A0_4 l0_4.length c0_4] 26 (0, 0)) (by (with_reducible repeat (first | refine blk_drewN ?_ _ | refine blk_drew ?_ | refine blk_alloc ?_ _)); exact BK176.out) hb); have n1_ := Aside0.mk (below_step (by repeat (first | (with_reducible first | exact HB.out | apply below_alloc | apply pw_below_drewN | apply below_drew1 | refine below_set ?_ GE176.out) | exact HB.out)) hb); clear BK176; clear HB; have BK176 := n0_; have HB := n1_; clear n0_ n1_; (try clear hb); (try clear hb2); (try clear hk); (try clear hi)))
    go_ret2
    exact ⟨by first | rfl | ((have e_ := EA21.out); subst e_; first | rfl | (simp [errW_none, errW_some] <;> rfl) | (simp [*, errW_none, errW_some] <;> rfl)) | (simp [errW_none, errW_some] <;> rfl) | (simp [*, errW_none, errW_some] <;> rfl), by repeat (first | (with_reducible first | exact HB.out | apply below_alloc | apply pw_below_drewN | apply below_drew1 | refine below_set ?_ GE176.out) | exact HB.out)⟩
end Go.Proofs.YtcbhnhoicecnnaaDoor.PrK
namespace Go.Proofs.YtcbhnhoicecnnaaDoor.Hand
set_option linter.unusedVariables false
set_option linter.unusedSimpArgs false
open Go.RowKit Go.Shelf Go.Maps Go.Proofs.YtcbhnhoicecnnaaDoorW.PrintWords Go.Proofs.YtcbhnhoicecnnaaDoorW.PrintLast Go.Proofs.YtcbhnhoicecnnaaDoorW.PrintMore Go.Proofs.YtcbhnhoicecnnaaDoor.PrK
theorem isRange_is (a b : Int) : peaveyref11_isRange.f a b = some (!oddB (a, b)) := by
  unfold peaveyref11_isRange.f
  have h := odd_iff (a, b)
  unfold RgOk at h
  dsimp only at h
  cases ho : oddB (a, b) with
  | false =>
    obtain ⟨h1, h2, h3⟩ := h.1 ho
    rw [if_pos (by omega), if_pos h2, decide_eq_true h3]; rfl
  | true =>
    have hn : ¬ (0 ≤ a ∧ a ≤ b ∧ b ≤ 1000) := fun g => by rw [h.2 g] at ho; cases ho
    by_cases h1 : a ≥ 0
    · rw [if_pos h1]
      by_cases h2 : a ≤ b
      · rw [if_pos h2, decide_eq_false (by omega)]; rfl
      · rw [if_neg h2]; rfl
    · rw [if_neg h1]; rfl
theorem rd24 (l : List S24) {i : Nat} (h : i < l.length) : rd_T24 l (i : Int) = l[i] := by
  unfold rd_T24
  rw [Int.toNat_natCast, List.getD_eq_getElem?_getD, List.getElem?_eq_getElem h]; rfl
theorem wsucc {i : Nat} (h : i ≤ 1000000) : wrap64 ((i : Int) + 1) = ((i + 1 : Nat) : Int) := by rw [IntWalk.wrap64_in _ ⟨by omega, by omega⟩]; rfl
theorem areRanges_l (l : List S24) (hl : l.length ≤ 1000) : ∀ (k i : Nat), i ≤ l.length → l.length < i + k → peaveyref11_areRanges.l0 k l (i : Int) = some (!((l.drop i).map pr).any oddB)
  | 0, i, h1, h2 => by omega
  | k + 1, i, h1, h2 => by
    rw [peaveyref11_areRanges.l0]
    by_cases h : i < l.length
    · rw [if_pos (by omega), if_pos (by omega), rd24 l h, isRange_is, Option.bind_some, List.drop_eq_getElem_cons h, List.map_cons, List.any_cons]
      have e : (l[i].f0, l[i].f1) = pr l[i] := rfl
      rw [e]
      cases ho : oddB (pr l[i]) with
      | true => simp
      | false =>
        rw [if_pos (by rfl), wsucc (by omega), areRanges_l l hl k (i + 1) (by omega) (by omega)]
        simp
    · rw [if_neg (by omega), List.drop_eq_nil_of_le (by omega)]; rfl
theorem areRanges_is (l : List S24) (hl : l.length ≤ 1000) {k : Nat} (hk : l.length < k) : peaveyref11_areRanges.f k l = some (!(l.map pr).any oddB) := by
  have := areRanges_l l hl k 0 (by omega) (by omega)
  exact this
theorem refCheck_is (s : ShM) (h4 : s.l4.length ≤ 60) {k : Nat} (hk : 100 < k) : peaveyref11_CheckSheet.f k s.l0 s.l1 s.a2 s.a3 s.l4 = some (csE s) := by
  obtain ⟨k, rfl⟩ : ∃ j, k = j + 1 := ⟨k - 1, by omega⟩
  have j6 : peaveyref11_CheckSheet.j0 (k + 1) true s.l0 s.l1 s.a2 s.a3 s.l4 = some 6 := by rw [peaveyref11_CheckSheet.j0, if_pos rfl]
  have jr : s.l0.length ≤ 5 → s.l1.length ≤ 5 → 1 ≤ s.l0.length → 1 ≤ s.l1.length → peaveyref11_CheckSheet.j0 (k + 1) false s.l0 s.l1 s.a2 s.a3 s.l4 = some (csE s) := by
    intro h0 h1 g0 g1
    have h25 : s.l0.length * s.l1.length ≤ 5 * 5 := Nat.mul_le_mul h0 h1
    have e : (s.l0.length : Int) * (s.l1.length : Int) = ((s.l0.length * s.l1.length : Nat) : Int) := by push_cast; rfl
    have hc : csE s = if s.l4.length ≠ s.l0.length * s.l1.length then 15 else if oddB (s.a2, s.a3) = true ∨ (s.l0.map pr).any oddB = true ∨ (s.l1.map pr).any oddB = true ∨ (s.l4.map pr).any oddB = true then 3 else 0 := by
      rw [csE, if_neg]
      simp only [outB, Bool.or_eq_true, decide_eq_true_iff]
      omega
    rw [peaveyref11_CheckSheet.j0, if_neg Bool.false_ne_true, e, IntWalk.wrap64_in _ ⟨by omega, by omega⟩, hc]
    by_cases hl : s.l4.length = s.l0.length * s.l1.length
    · rw [if_pos (by omega), if_neg (fun h => h hl), areRanges_is _ (by omega) (by omega), areRanges_is _ (by omega) (by omega), areRanges_is _ (by omega) (by omega), isRange_is]
      simp only [Option.bind_some]
      cases (s.l0.map pr).any oddB <;> cases (s.l1.map pr).any oddB <;> cases (s.l4.map pr).any oddB <;> cases oddB (s.a2, s.a3) <;> simp
    · rw [if_neg (by omega), if_pos hl]
  unfold peaveyref11_CheckSheet.f
  have e6 : ∀ h : (s.l0.length < 1 ∨ 5 < s.l0.length) ∨ (s.l1.length < 1 ∨ 5 < s.l1.length), csE s = 6 := by
    intro h
    rw [csE, if_pos]
    simp only [outB, Bool.or_eq_true, decide_eq_true_iff]
    omega
  by_cases h1 : s.l0.length < 1
  · rw [if_pos (by omega), j6, e6 (by omega)]
  rw [if_neg (by omega)]
  by_cases h2 : 5 < s.l0.length
  · rw [if_pos (by omega), j6, e6 (by omega)]
  rw [if_neg (by omega)]
  by_cases h3 : s.l1.length < 1
  · rw [if_pos (by omega), j6, e6 (by omega)]
  rw [if_neg (by omega)]
  by_cases h4 : 5 < s.l1.length
  · rw [decide_eq_true (by omega), j6, e6 (by omega)]
  · rw [decide_eq_false (by omega)]
    exact jr (by omega) (by omega) (by omega) (by omega)
def TabFrom (s : ShM) (l : List Int) (i : Nat) : Prop := ∀ j, i ≤ j → j < l.length → (rgAt s.sh.cs j).1 ≤ tat l j ∧ tat l j ≤ (rgAt s.sh.cs j).2
theorem isTable_l (s : ShM) (l : List Int) (he : l.length = s.l4.length) (h4 : s.l4.length ≤ 1000) : ∀ (k i : Nat), i ≤ l.length → l.length < i + k →
    ∃ e, peaveyref11_IsTable.l0 k l (i : Int) s.l0 s.l1 s.a2 s.a3 s.l4 = some e ∧ (e = 0 ∧ TabFrom s l i ∨ e = 3 ∧ ¬ TabFrom s l i)
  | 0, i, h1, h2 => by omega
  | k + 1, i, h1, h2 => by
    rw [peaveyref11_IsTable.l0]
    by_cases h : i < l.length
    · have e : rgAt s.sh.cs i = pr (rd_T24 s.l4 (i : Int)) := rg_map s.l4 i
      have e2 : rd l (i : Int) = tat l i := by unfold rd tat; rw [Int.toNat_natCast]
      rw [if_pos (by omega), if_pos (by omega), if_pos (by omega), e2]
      obtain ⟨r, ih, hr⟩ := isTable_l s l he h4 k (i + 1) (by omega) (by omega)
      by_cases g1 : tat l i < (rd_T24 s.l4 (i : Int)).f0
      · rw [if_pos g1]
        refine ⟨3, rfl, .inr ⟨rfl, fun hh => ?_⟩⟩
        have := (hh i (Nat.le_refl _) h).1
        rw [e] at this
        simp only [pr] at this
        omega
      · rw [if_neg g1]
        by_cases g2 : tat l i > (rd_T24 s.l4 (i : Int)).f1
        · rw [if_pos g2]
          refine ⟨3, rfl, .inr ⟨rfl, fun hh => ?_⟩⟩
          have := (hh i (Nat.le_refl _) h).2
          rw [e] at this
          simp only [pr] at this
          omega
        · rw [if_neg g2, wsucc (by omega), ih]
          refine ⟨r, rfl, ?_⟩
          rcases hr with ⟨h0, hA⟩ | ⟨h3, hA⟩
          · refine .inl ⟨h0, fun j hj hjl => ?_⟩
            by_cases ej : j = i
            · subst ej
              rw [e]
              simp only [pr]
              omega
            · exact hA j (by omega) hjl
          · exact .inr ⟨h3, fun hh => hA fun j hj => hh j (by omega)⟩
    · rw [if_neg (by omega)]
      exact ⟨0, rfl, .inl ⟨rfl, fun j hj hjl => by omega⟩⟩
theorem isTable_ok (s : ShM) (l : List Int) (h4 : s.l4.length ≤ 1000) {k : Nat} (hk : s.l4.length < k) (h : InL s.sh l) : peaveyref11_IsTable.f k s.l0 s.l1 s.a2 s.a3 s.l4 l = some 0 := by
  have he : l.length = s.l4.length := by rw [h.1, ShM.len4]
  unfold peaveyref11_IsTable.f
  rw [if_pos (by omega)]
  obtain ⟨e, h1, h2⟩ := isTable_l s l he h4 k 0 (by omega) (by omega)
  rw [show ((0 : Nat) : Int) = 0 from rfl] at h1
  rw [h1]
  rcases h2 with ⟨rfl, _⟩ | ⟨_, hn⟩
  · rfl
  · exact absurd (fun j _ hj => h.2 j (by rw [← h.1]; exact hj)) hn
theorem tallies_is (s : ShM) (h0 : s.l0.length ≤ 1000) (h1 : s.l1.length ≤ 1000) : peaveyref11_Tallies.f s.l0 s.l1 s.a2 s.a3 s.l4 = some (s.l0 ++ s.l1 ++ [⟨s.a2, s.a3⟩]) := by
  unfold peaveyref11_Tallies.f
  simp only [Option.bind_some, List.nil_append, List.length_nil, List.length_append, List.length_cons]
  rw [if_pos (by omega), if_pos (by omega), if_pos (by omega)]
def talL (s : ShM) : List S24 := s.l0 ++ s.l1 ++ [⟨s.a2, s.a3⟩]
theorem talL_length (s : ShM) : (talL s).length = s.l0.length + s.l1.length + 1 := by simp [talL]; omega
theorem talL_at (s : ShM) (i : Nat) : rgAt ((talL s).map pr) i = if i < s.l0.length then rgAt s.sh.os i else if i < s.l0.length + s.l1.length then rgAt s.sh.ps (i - s.l0.length) else if i = s.l0.length + s.l1.length then s.sh.all else (0, 0) := by
  unfold talL rgAt
  rw [List.getD_eq_getElem?_getD, List.map_append, List.map_append]
  have h0 : (s.l0.map pr).length = s.l0.length := List.length_map _
  have h1 : (s.l1.map pr).length = s.l1.length := List.length_map _
  by_cases g1 : i < s.l0.length
  · rw [if_pos g1, List.append_assoc, List.getElem?_append_left (by omega)]
    rw [List.getD_eq_getElem?_getD]; rfl
  · rw [if_neg g1]
    by_cases g2 : i < s.l0.length + s.l1.length
    · rw [if_pos g2, List.append_assoc, List.getElem?_append_right (by omega), List.getElem?_append_left (by omega), h0]
      rw [List.getD_eq_getElem?_getD]; rfl
    · rw [if_neg g2, List.getElem?_append_right (by simp; omega)]
      by_cases g3 : i = s.l0.length + s.l1.length
      · rw [if_pos g3, g3]
        simp [pr, ShM.sh, shL]
      · rw [if_neg g3, List.getElem?_eq_none (by simp; omega)]; rfl
def bdT (s : ShM) (ws : List Int) (k : Nat) : Int := sumR k fun i => putW (tat ws i) (rgAt ((talL s).map pr) i)
theorem bdT_end (s : ShM) (ws : List Int) : bdT s ws (s.l0.length + s.l1.length + 1) = bdW s ws := by
  unfold bdT bdW bdP bdO
  rw [sumR_succ, sumR_split]
  congr 1
  · congr 1
    · refine sumR_congr fun i hi => ?_
      rw [talL_at, if_pos hi]
    · refine sumR_congr fun i hi => ?_
      rw [talL_at, if_neg (by omega), if_pos (by omega), Nat.add_sub_cancel_left]
  · rw [talL_at, if_neg (by omega), if_neg (by omega), if_pos rfl]
theorem talL_ok {s : ShM} (hS : s.Ok) {i : Nat} (hi : i < s.l0.length + s.l1.length + 1) : RgOk (rgAt ((talL s).map pr) i) := by
  rw [talL_at]
  by_cases g1 : i < s.l0.length
  · rw [if_pos g1]; exact hS.ho i (by rw [← ShM.len0] at g1; exact g1)
  · rw [if_neg g1]
    by_cases g2 : i < s.l0.length + s.l1.length
    · rw [if_pos g2]; exact hS.hp _ (by rw [show s.sh.ps.length = s.l1.length from s.len1]; omega)
    · rw [if_neg g2, if_pos (by omega)]; exact hS.ha
theorem wadd {a b : Int} (h : -1000000000 ≤ a + b ∧ a + b ≤ 1000000000) : wrap64 (a + b) = a + b := IntWalk.wrap64_in _ ⟨by omega, by omega⟩
theorem wsub {a b : Int} (h : -1000000000 ≤ a - b ∧ a - b ≤ 1000000000) : wrap64 (a - b) = a - b := IntWalk.wrap64_in _ ⟨by omega, by omega⟩
theorem rd_tat (l : List Int) (i : Nat) : rd l (i : Int) = tat l i := by unfold rd tat; rw [Int.toNat_natCast]
theorem mn_cell (v : Int) (g : S24) : mn (-v * g.f0) (-v * g.f1) = cellB v (pr g) := by
  unfold mn cellB pr; dsimp only; split <;> omega
section
variable {s : ShM} {ws : List Int} (hS : s.Ok) (hw : ∀ j, -1 ≤ tat ws j ∧ tat ws j ≤ 1) (hl : ws.length = s.l0.length + s.l1.length + 1)
include hS hw hl
theorem boundOf_l1 : ∀ (k i : Nat), i ≤ s.l4.length → s.l4.length < i + k →
    peaveyref11_BoundOf.l1 k ws (bdC s ws i) (s.l0.length : Int) (s.l1.length : Int) (i : Int) s.l0 s.l1 s.a2 s.a3 s.l4 = some (bdC s ws s.l4.length)
  | 0, i, h1, h2 => by omega
  | k + 1, i, h1, h2 => by
    have n5 : s.l0.length ≤ 5 := by have := hS.n5; have := s.len0; unfold Sh.n at this; omega
    have m5 : s.l1.length ≤ 5 := by have := hS.m5; have := s.len1; unfold Sh.m at this; omega
    have m1 : 1 ≤ s.l1.length := by have := hS.m1; have := s.len1; unfold Sh.m at this; omega
    have l25 := ShM.l25 hS
    rw [peaveyref11_BoundOf.l1]
    by_cases h : i < s.l4.length
    · have hq : i / s.l1.length < s.l0.length := by
        have hle := hS.len
        rw [ShM.len4, show s.sh.os.length = s.l0.length from s.len0, show s.sh.ps.length = s.l1.length from s.len1] at hle
        exact Nat.div_lt_of_lt_mul (by rw [Nat.mul_comm, ← hle]; exact h)
      have hr := Nat.mod_lt i (show 0 < s.l1.length by omega)
      have hdv : Int.tdiv (i : Int) (s.l1.length : Int) = ((i / s.l1.length : Nat) : Int) := (Int.ofNat_tdiv _ _).symm
      have hmd : Int.tmod (i : Int) (s.l1.length : Int) = ((i % s.l1.length : Nat) : Int) := (Int.ofNat_tmod _ _).symm
      obtain ⟨q, hqe⟩ : ∃ q, q = i / s.l1.length := ⟨_, rfl⟩
      obtain ⟨r, hre⟩ : ∃ r, r = i % s.l1.length := ⟨_, rfl⟩
      have hbc : bdC s ws (i + 1) = bdC s ws i + cellB (tat ws q + tat ws (s.l0.length + r) + tat ws (s.l0.length + s.l1.length)) (rgAt s.sh.cs i) := by
        unfold bdC; rw [sumR_succ, hqe, hre]; omega
      have hb1 := bdC_bd hS hw (k := i) (by omega)
      have hb2 := bdC_bd hS hw (k := i + 1) (by omega)
      rw [hdv, hmd, ← hqe, ← hre]
      rw [← hqe] at hq
      rw [← hre] at hr
      have z0 : (i : Int) < (s.l4.length : Int) := by omega
      have z1 : ¬ ((s.l1.length : Int) = 0) := by omega
      have z2 : (0 : Int) ≤ (q : Int) := by omega
      have z3 : (q : Int) < (ws.length : Int) := by omega
      have z4 : (0 : Int) ≤ ((s.l0.length + r : Nat) : Int) := by omega
      have z5 : ((s.l0.length + r : Nat) : Int) < (ws.length : Int) := by omega
      have z6 : (0 : Int) ≤ ((s.l0.length + s.l1.length : Nat) : Int) := by omega
      have z7 : ((s.l0.length + s.l1.length : Nat) : Int) < (ws.length : Int) := by omega
      have z8 : (0 : Int) ≤ (i : Int) := by omega
      have w1 : Hid (wrap64 ((q : Nat) : Int) = (q : Int)) := Lib.hid (IntWalk.wrap64_in _ ⟨by omega, by omega⟩)
      have w2 : Hid (wrap64 ((s.l0.length : Int) + (r : Int)) = ((s.l0.length + r : Nat) : Int)) := Lib.hid (by rw [wadd ⟨by omega, by omega⟩]; push_cast; rfl)
      have w3 : Hid (wrap64 ((s.l0.length : Int) + (s.l1.length : Int)) = ((s.l0.length + s.l1.length : Nat) : Int)) := Lib.hid (by rw [wadd ⟨by omega, by omega⟩]; push_cast; rfl)
      rw [w1.out, w2.out, w3.out, rd_tat, rd_tat, rd_tat, if_pos z0, if_neg z1, if_pos z2, if_pos z3, if_pos z4, if_pos z5, if_pos z6, if_pos z7, if_pos z8]
      clear w1 w2 w3 z0 z1 z2 z3 z4 z5 z6 z7 z8
      have a1 := hw q
      have a2 := hw (s.l0.length + r)
      have a3 := hw (s.l0.length + s.l1.length)
      have hrg : RgOk (rgAt s.sh.cs i) := hS.hc i (by rw [ShM.len4]; exact h)
      have er : rgAt s.sh.cs i = pr (rd_T24 s.l4 (i : Int)) := rg_map s.l4 i
      obtain ⟨g, hg⟩ : ∃ g, g = rd_T24 s.l4 (i : Int) := ⟨_, rfl⟩
      rw [← hg] at er ⊢
      rw [er] at hbc hrg
      obtain ⟨r1, r2, r3⟩ := hrg
      dsimp only [pr] at r1 r2 r3
      obtain ⟨v, hv⟩ : ∃ v, v = tat ws q + tat ws (s.l0.length + r) + tat ws (s.l0.length + s.l1.length) := ⟨_, rfl⟩
      have hv3 : v = -3 ∨ v = -2 ∨ v = -1 ∨ v = 0 ∨ v = 1 ∨ v = 2 ∨ v = 3 := by omega
      have e1 : Hid (wrap64 (-(wrap64 ((wrap64 (tat ws q + tat ws (s.l0.length + r))) + tat ws (s.l0.length + s.l1.length)))) = -v) := Lib.hid (by
        rw [show wrap64 (tat ws q + tat ws (s.l0.length + r)) = tat ws q + tat ws (s.l0.length + r) from wadd ⟨by omega, by omega⟩, show wrap64 (tat ws q + tat ws (s.l0.length + r) + tat ws (s.l0.length + s.l1.length)) = tat ws q + tat ws (s.l0.length + r) + tat ws (s.l0.length + s.l1.length) from wadd ⟨by omega, by omega⟩, ← hv]
        exact IntWalk.wrap64_in _ ⟨by omega, by omega⟩)
      have bm : ∀ x : Int, 0 ≤ x → x ≤ 1000 → Hid (wrap64 (-v * x) = -v * x) ∧ -3000 ≤ -v * x ∧ -v * x ≤ 3000 := fun x x0 x1 => by
        have : -3000 ≤ -v * x ∧ -v * x ≤ 3000 := by rcases hv3 with e | e | e | e | e | e | e <;> subst e <;> omega
        exact ⟨Lib.hid (IntWalk.wrap64_in _ ⟨by omega, by omega⟩), this⟩
      have b1 := bm g.f0 (by omega) (by omega)
      have b2 := bm g.f1 (by omega) (by omega)
      rw [e1.out, b1.1.out, b2.1.out, wsucc (by omega)]
      have em : mn (-v * g.f0) (-v * g.f1) = cellB v (pr g) := mn_cell v g
      rw [em]
      rw [← hv] at hbc
      rw [wadd ⟨by rw [← hbc]; omega, by rw [← hbc]; omega⟩, ← hbc]
      exact boundOf_l1 k (i + 1) (by omega) (by omega)
    · rw [if_neg (by omega)]
      obtain rfl : i = s.l4.length := by omega
      rfl
theorem boundOf_l0 : ∀ (k i : Nat), i ≤ s.l0.length + s.l1.length + 1 → s.l0.length + s.l1.length + 1 + 40 < i + k →
    peaveyref11_BoundOf.l0 k ws (talL s) (bdT s ws i) (i : Int) s.l0 s.l1 s.a2 s.a3 s.l4 = some (bdC s ws s.l4.length)
  | 0, i, h1, h2 => by omega
  | k + 1, i, h1, h2 => by
    have n5 : s.l0.length ≤ 5 := by have := hS.n5; have := s.len0; unfold Sh.n at this; omega
    have m5 : s.l1.length ≤ 5 := by have := hS.m5; have := s.len1; unfold Sh.m at this; omega
    have l25 := ShM.l25 hS
    have hbd : ∀ j, j ≤ s.l0.length + s.l1.length + 1 → -(j * 1000 : Int) ≤ bdT s ws j ∧ bdT s ws j ≤ j * 1000 := fun j hj => by
      unfold bdT
      exact sumR_bd (c := 1000) fun i hi => putW_bd (talL_ok hS (by omega))
    rw [peaveyref11_BoundOf.l0, talL_length]
    by_cases h : i < s.l0.length + s.l1.length + 1
    · have er : rgAt ((talL s).map pr) i = pr (rd_T24 (talL s) (i : Int)) := rg_map _ i
      have hrg := talL_ok hS h
      obtain ⟨g, hg⟩ : ∃ g, g = rd_T24 (talL s) (i : Int) := ⟨_, rfl⟩
      rw [← hg] at er ⊢
      rw [er] at hrg
      obtain ⟨r1, r2, r3⟩ := hrg
      dsimp only [pr] at r1 r2 r3
      have hb1 := hbd i (by omega)
      have hsu : bdT s ws (i + 1) = bdT s ws i + putW (tat ws i) (pr g) := by unfold bdT; rw [sumR_succ, er]
      have a1 := hw i
      rw [rd_tat, if_pos (by push_cast; omega), if_pos (by omega), if_pos (by omega), wsucc (by omega)]
      have ih := boundOf_l0 k (i + 1) (by omega) (by omega)
      rw [hsu] at ih
      unfold putW at ih
      dsimp only [pr] at ih
      by_cases g1 : tat ws i > 0
      · rw [if_pos g1, if_neg (by omega), wadd ⟨by omega, by omega⟩]
        rw [if_pos (by omega)] at ih
        exact ih
      · rw [if_neg g1]
        by_cases g2 : tat ws i < 0
        · rw [if_pos g2, wsub ⟨by omega, by omega⟩]
          rw [if_neg (by omega), if_pos (by omega), ← Int.sub_eq_add_neg] at ih
          exact ih
        · rw [if_neg g2]
          rw [if_neg (by omega), if_neg (by omega), Int.add_zero] at ih
          exact ih
    · rw [if_neg (by push_cast; omega)]
      obtain rfl : i = s.l0.length + s.l1.length + 1 := by omega
      rw [bdT_end, show bdW s ws = bdC s ws 0 by unfold bdC; rw [sumR_zero]; omega]
      exact boundOf_l1 hS hw hl k 0 (by omega) (by omega)
theorem boundOf_is {k : Nat} (hk : 100 < k) : peaveyref11_BoundOf.f k s.l0 s.l1 s.a2 s.a3 s.l4 ws = some (boundS s.sh (wsW s.l0.length s.l1.length ws)) := by
  have n5 : s.l0.length ≤ 5 := by have := hS.n5; have := s.len0; unfold Sh.n at this; omega
  have m5 : s.l1.length ≤ 5 := by have := hS.m5; have := s.len1; unfold Sh.m at this; omega
  unfold peaveyref11_BoundOf.f
  rw [tallies_is s (by omega) (by omega), Option.bind_some]
  have := boundOf_l0 hS hw hl k 0 (by omega) (by omega)
  rw [show bdT s ws 0 = 0 from rfl, bd_end hS] at this
  exact this
end
theorem refWeights_l (s : ShM) (hS : s.Ok) (ws : List Int) (hl : ws.length = s.l0.length + s.l1.length + 1) : ∀ (k i : Nat), i ≤ ws.length → ws.length + 150 < i + k → (∀ j, j < i → -1 ≤ tat ws j ∧ tat ws j ≤ 1) →
    ∃ r, peaveyref11_CheckWeights.l0 k ws (i : Int) s.l0 s.l1 s.a2 s.a3 s.l4 = some r ∧ (InW3 ws ∧ r = (boundS s.sh (wsW s.l0.length s.l1.length ws), 0) ∨ ¬ InW3 ws ∧ r = (0, 3))
  | 0, i, h1, h2, _ => by omega
  | k + 1, i, h1, h2, hp => by
    have n5 : s.l0.length ≤ 5 := by have := hS.n5; have := s.len0; unfold Sh.n at this; omega
    have m5 : s.l1.length ≤ 5 := by have := hS.m5; have := s.len1; unfold Sh.m at this; omega
    rw [peaveyref11_CheckWeights.l0]
    by_cases h : i < ws.length
    · rw [if_pos (by omega), if_pos (by omega), rd_tat]
      by_cases g1 : tat ws i < -1
      · rw [if_pos g1]
        exact ⟨_, rfl, .inr ⟨fun hh => by have := hh i h; omega, rfl⟩⟩
      · rw [if_neg g1]
        by_cases g2 : tat ws i > 1
        · rw [if_pos g2]
          exact ⟨_, rfl, .inr ⟨fun hh => by have := hh i h; omega, rfl⟩⟩
        · rw [if_neg g2, wsucc (by omega)]
          exact refWeights_l s hS ws hl k (i + 1) (by omega) (by omega) fun j hj => by
            by_cases e : j = i
            · subst e; omega
            · exact hp j (by omega)
    · rw [if_neg (by omega)]
      have hw : InW3 ws := fun j hj => hp j (by omega)
      have hw' : ∀ j, -1 ≤ tat ws j ∧ tat ws j ≤ 1 := fun j => by
        by_cases hj : j < ws.length
        · exact hw j hj
        · unfold tat; rw [List.getD_eq_getElem?_getD, List.getElem?_eq_none (by omega)]; simp
      rw [boundOf_is hS hw' hl (by omega)]
      exact ⟨_, rfl, .inl ⟨hw, rfl⟩⟩
theorem refWeights_any (s : ShM) (hS : s.Ok) (ws : List Int) (hl : ws.length = s.l0.length + s.l1.length + 1) {k : Nat} (hk : 300 < k) (n er : Int) (hres : (InW3 ws ∧ n = boundS s.sh (wsW s.l0.length s.l1.length ws) ∧ er = 0) ∨ (¬ InW3 ws ∧ n = 0 ∧ er = 3)) :
    peaveyref11_CheckWeights.f k s.l0 s.l1 s.a2 s.a3 s.l4 ws = some (n, er) := by
  have n5 : s.l0.length ≤ 5 := by have := hS.n5; have := s.len0; unfold Sh.n at this; omega
  have m5 : s.l1.length ≤ 5 := by have := hS.m5; have := s.len1; unfold Sh.m at this; omega
  have l25 := ShM.l25 hS
  unfold peaveyref11_CheckWeights.f
  rw [refCheck_is s (by omega) (by omega), Option.bind_some, if_pos ((csE_ok s).2 hS), show wrap64 ((s.l0.length : Int) + (s.l1.length : Int)) = (s.l0.length : Int) + (s.l1.length : Int) from wadd ⟨by omega, by omega⟩, wadd ⟨by omega, by omega⟩, if_pos (by omega)]
  obtain ⟨r, h1, h2⟩ := refWeights_l s hS ws hl k 0 (by omega) (by omega) (fun j hj => by omega)
  rw [show ((0 : Nat) : Int) = 0 from rfl] at h1
  rw [h1]
  rcases h2 with ⟨ha, rfl⟩ | ⟨ha, rfl⟩ <;> rcases hres with ⟨hb, rfl, rfl⟩ | ⟨hb, rfl, rfl⟩
  · rfl
  · exact absurd ha hb
  · exact absurd hb ha
  · rfl
theorem refCheck_any (s : ShM) (w : World) (h : ShR w s) (h4 : s.l4.length ≤ 60) :
    Calls Tryd.prog 21 #[.agg #[.slice s.A0 s.l0.length s.c0, .slice s.A1 s.l1.length s.c1, .int .i64 s.a2, .int .i64 s.a3, .slice s.A4 s.l4.length s.c4]] w fun e w' => e = .returned (.int .i64 (csE s)) ∧ Below w.heap.size w w' :=
  peaveyref11_CheckSheet.calls 200 s.A0 s.c0 s.l0 s.A1 s.c1 s.l1 s.a2 s.a3 s.A4 s.c4 s.l4 (csE s) w h.r0 h.h0 h.r1 h.h1 h.r4 h.h4 (refCheck_is s h4 (by omega))
def ownR (m : Nat) (T : Nat → Int) (i k : Nat) : Int := sumR i fun j => if j / m = k then T j else 0
def pckR (m : Nat) (T : Nat → Int) (i p : Nat) : Int := sumR i fun j => if j % m = p then T j else 0
def sumsK (n m : Nat) (T : Nat → Int) (i k : Nat) : Int := if k < n then ownR m T i k else if k < n + m then pckR m T i (k - n) else sumR i T
def sumsL (n m : Nat) (T : Nat → Int) (i : Nat) : List Int := (List.range (n + m + 1)).map (sumsK n m T i)
theorem sumsL_length (n m : Nat) (T : Nat → Int) (i : Nat) : (sumsL n m T i).length = n + m + 1 := by simp [sumsL]
theorem sumsL_get (n m : Nat) (T : Nat → Int) (i k : Nat) (h : k < (sumsL n m T i).length) : (sumsL n m T i)[k] = sumsK n m T i k := by simp [sumsL]
theorem sumsL_at (n m : Nat) (T : Nat → Int) (i k : Nat) (h : k < n + m + 1) : tat (sumsL n m T i) k = sumsK n m T i k := by
  unfold tat sumsL
  rw [List.getD_eq_getElem?_getD, List.getElem?_map, List.getElem?_range h]; rfl
theorem ownR_end {m : Nat} (hm : 1 ≤ m) (T : Nat → Int) (n : Nat) {k : Nat} (hk : k < n) : ownR m T (n * m) k = ownS m T k := by
  unfold ownR
  rw [sumR_rows, sumR_one (k := k) hk (fun o _ hne => sumR_zero' fun p hp => by
    have h1 : (o * m + p) / m = o := by rw [Nat.add_comm, Nat.add_mul_div_right _ _ (by omega), Nat.div_eq_of_lt hp, Nat.zero_add]
    rw [h1, if_neg hne])]
  unfold ownS
  refine sumR_congr fun p hp => ?_
  have h1 : (k * m + p) / m = k := by rw [Nat.add_comm, Nat.add_mul_div_right _ _ (by omega), Nat.div_eq_of_lt hp, Nat.zero_add]
  rw [h1, if_pos rfl]
theorem pckR_end {m : Nat} (T : Nat → Int) (n : Nat) {k : Nat} (hk : k < m) : pckR m T (n * m) k = pckS n m T k := by
  unfold pckR pckS
  rw [sumR_rows]
  refine sumR_congr fun o _ => ?_
  rw [sumR_one (k := k) hk (fun p hp hne => by
    have h2 : (o * m + p) % m = p := by rw [Nat.add_comm, Nat.add_mul_mod_self_right, Nat.mod_eq_of_lt hp]
    rw [h2, if_neg hne])]
  have h2 : (o * m + k) % m = k := by rw [Nat.add_comm, Nat.add_mul_mod_self_right, Nat.mod_eq_of_lt hk]
  rw [h2, if_pos rfl]
theorem sums_end {s : ShM} (hS : s.Ok) (T : Nat → Int) (k : Nat) : sumsK s.l0.length s.l1.length T s.l4.length k = if k < s.l0.length then ownS s.l1.length T k else if k < s.l0.length + s.l1.length then pckS s.l0.length s.l1.length T (k - s.l0.length) else allS s.l0.length s.l1.length T := by
  have hl : s.l4.length = s.l0.length * s.l1.length := by have := hS.len; rw [ShM.len4] at this; rw [this]; simp [ShM.sh, shL]
  have m1 : 1 ≤ s.l1.length := by have := hS.m1; simp [ShM.sh, shL] at this; omega
  unfold sumsK
  rw [hl]
  by_cases g1 : k < s.l0.length
  · rw [if_pos g1, if_pos g1, ownR_end m1 T _ g1]
  · rw [if_neg g1, if_neg g1]
    by_cases g2 : k < s.l0.length + s.l1.length
    · rw [if_pos g2, if_pos g2, pckR_end T _ (by omega)]
    · rw [if_neg g2, if_neg g2, sumR_rows]; rfl
theorem sums_next (n m : Nat) (T : Nat → Int) (i q r : Nat) (hq : q = i / m) (hr : r = i % m) (hqn : q < n) (hrm : r < m) : sumsL n m T (i + 1) = (((sumsL n m T i).set q (sumsK n m T i q + T i)).set (n + r) (sumsK n m T i (n + r) + T i)).set (n + m) (sumsK n m T i (n + m) + T i) := by
  apply List.ext_getElem
  · simp [sumsL_length]
  intro k h1 h2
  rw [sumsL_length] at h1
  rw [List.getElem_set, List.getElem_set, List.getElem_set]
  rw [sumsL_get, sumsL_get]
  by_cases e3 : n + m = k
  · subst e3
    rw [if_pos rfl]
    unfold sumsK
    rw [if_neg (by omega), if_neg (by omega), if_neg (by omega), if_neg (by omega), sumR_succ]
  rw [if_neg e3]
  by_cases e2 : n + r = k
  · subst e2
    rw [if_pos rfl]
    unfold sumsK
    rw [if_neg (by omega), if_pos (by omega), if_neg (by omega), if_pos (by omega), Nat.add_sub_cancel_left]
    unfold pckR
    rw [sumR_succ, if_pos hr.symm]
  rw [if_neg e2]
  by_cases e1 : q = k
  · subst e1
    rw [if_pos rfl]
    unfold sumsK
    rw [if_pos hqn, if_pos hqn]
    unfold ownR
    rw [sumR_succ, if_pos hq.symm]
  rw [if_neg e1]
  unfold sumsK
  by_cases g1 : k < n
  · rw [if_pos g1, if_pos g1]
    unfold ownR
    rw [sumR_succ, if_neg (by omega)]; omega
  · rw [if_neg g1, if_neg g1, if_pos (by omega), if_pos (by omega)]
    unfold pckR
    rw [sumR_succ, if_neg (by omega)]; omega
theorem sums_bd {n m : Nat} {T : Nat → Int} {i : Nat} (hT : ∀ j, j < i → 0 ≤ T j ∧ T j ≤ 1000) (k : Nat) : 0 ≤ sumsK n m T i k ∧ sumsK n m T i k ≤ 1000 * i := by
  have gen : ∀ f : Nat → Int, (∀ j, j < i → 0 ≤ f j ∧ f j ≤ 1000) → 0 ≤ sumR i f ∧ sumR i f ≤ 1000 * i := fun f hf => by
    have := sumR_k' (c := 1000) (n := i) hf
    omega
  unfold sumsK
  split
  · exact gen _ fun j hj => by have := hT j hj; split <;> omega
  · split
    · exact gen _ fun j hj => by have := hT j hj; split <;> omega
    · exact gen _ hT
def RowI (W : World) (R : Nat) (xs : List Int) : Prop := W.heap[R]? = some (.cells (nums .i64 xs).toArray 2 (0, 0))
section
variable {W W' : World} {R : Nat} {xs : List Int}
theorem RowI.cell (h : RowI W R xs) {k : Nat} (hk : k < xs.length) : W.cell? ⟨R, k, none⟩ = some (.int .i64 (tat xs k)) := by
  rw [cell_of_row W _ _ _ _ _ h]
  simp [nums, tat, hk, List.getD_eq_getElem?_getD]
theorem RowI.free (h : RowI W R xs) (k : Nat) : W.frozen? ⟨R, k, none⟩ = false := frozen_of_row W _ k _ _ h
theorem RowI.set (h : RowI W R xs) (k : Nat) (v : Int) : RowI (W.setCell ⟨R, k, none⟩ (.int .i64 v)) R (xs.set k v) := by
  have := heap_setCell_same W R k _ _ (.int .i64 v) h
  unfold RowI
  rw [this]
  congr 2
  simp [nums, List.map_set]
theorem RowI.below (h : RowI W R xs) (hb : Below W.heap.size W W') : RowI W' R xs := (hb.block _ (heap_lt h)).trans h
end
theorem tat_set_ne (t : List Int) {i k : Nat} (v : Int) (h : i ≠ k) : tat (t.set i v) k = tat t k := by
  unfold tat
  rw [List.getD_eq_getElem?_getD, List.getElem?_set_ne h, ← List.getD_eq_getElem?_getD]
set_option maxHeartbeats 4000000 in
set_option maxRecDepth 100000 in
theorem sums_any (s : ShM) (A : Option Addr) (c : Nat) (l : List Int) (w : World) (h : ShR w s) (hS : s.Ok) (hl : Kd.C (Kd.int .i64) w A l.length l) (hlc : l.length ≤ c) (hin : InL s.sh l) :
    Calls Tryd.prog 42 #[.agg #[.slice s.A0 s.l0.length s.c0, .slice s.A1 s.l1.length s.c1, .int .i64 s.a2, .int .i64 s.a3, .slice s.A4 s.l4.length s.c4], .slice A l.length c] w fun e w' => ∃ R, e = .returned (.slice (some ⟨R, 0, none⟩) (s.l0.length + s.l1.length + 1) (s.l0.length + s.l1.length + 1)) ∧ RowI w' R (sumsL s.l0.length s.l1.length (tat l) s.l4.length) ∧ w.heap.size ≤ R ∧ Below w.heap.size w w' := by
  obtain ⟨W, hW⟩ : ∃ W, W = w.alloc (.cells #[.slice s.A0 s.l0.length s.c0, .slice s.A1 s.l1.length s.c1, .int .i64 s.a2, .int .i64 s.a3, .slice s.A4 s.l4.length s.c4] 26) := ⟨_, rfl⟩
  have hb : Below w.heap.size w W := by rw [hW]; exact (Below.refl _ _).alloc (Nat.le_refl _) _
  have hX : BoxS W w.heap.size s := by rw [hW]; exact box_new w s
  have ht := tok_in hS hin
  have he : l.length = s.l4.length := by rw [hin.1, ShM.len4]
  have hl1 : 1 ≤ l.length := by
    have h1 := hS.len
    have h2 : 1 * 1 ≤ s.sh.os.length * s.sh.ps.length := Nat.mul_le_mul hS.n1 hS.m1
    rw [ShM.len4] at h1
    omega
  have n5 : (s.l0.length : Int) ≤ 5 := by have := ht.n5; omega
  have m5 : (s.l1.length : Int) ≤ 5 := by have := ht.m5; omega
  have hm0 : ¬ ((s.l1.length : Int) = 0) := by have := ht.m1; omega
  have hm1' : ¬ (s.l1 = []) := fun h => by have := ht.m1; rw [h] at this; simp at this
  have ww1 : IntKind.i64.wrap ((s.l0.length : Int) + (s.l1.length : Int)) = (s.l0.length : Int) + (s.l1.length : Int) := IntWalk.i64_in _ (by omega)
  have ww2 : IntKind.i64.wrap ((s.l0.length : Int) + (s.l1.length : Int) + 1) = (s.l0.length : Int) + (s.l1.length : Int) + 1 := IntWalk.i64_in _ (by omega)
  have l25 : (l.length : Int) ≤ 25 := by have := ht.l25; omega
  have hlr : ReadsInt w .i64 A l.length l := Kd.reads_of_C (d := (0 : Int)) (h1 := fun _ => rfl) hl
  obtain ⟨ad, rfl, hcell⟩ := reads_some hlr (by omega)
  have HS := Lib.hid (And.intro hcell (And.intro ht (And.intro hin (And.intro he hb))))
  obtain ⟨N, hN⟩ : ∃ N, N = s.l0.length + s.l1.length + 1 := ⟨_, rfl⟩
  have hNi : (s.l0.length : Int) + (s.l1.length : Int) + 1 = (N : Int) := by omega
  rw [← hN]
  have N11 : N ≤ 11 := by omega
  have HN := Lib.hid hN
  have N0 : (0 : Int) ≤ (N : Int) := by omega
  have x0 := hX.c0
  have x1 := hX.c1
  have x2 := hX.c2
  have x3 := hX.c3
  have x4 := hX.c4
  clear h hS hl hlc hin hlr hcell hb hX ht he hl1 hN
  go_enter Tryd.func42, Tryd.ntmps42
  go_upto_region 1 with fail
  rw [← hW]
  clear hW
  obtain ⟨b, hbe⟩ : ∃ b, b = w.heap.size := ⟨_, rfl⟩
  rw [← hbe] at x0 x1 ⊢
  clear hbe
  have hS0 : Below W.heap.size W W.drew := (Below.refl _ _).drew
  refine wp_region_held_list (k := 8) rfl (fun w' => Below W.heap.size W w') (by kernel_rfl) ?_
  generalize W.drew = W0 at hS0 ⊢
  have hS := hS0
  refine tk 0 (.pointer (some ⟨b, 0, none⟩)) rfl (fun w' hw' => by go_simp) hS ?_
  refine tk 1 (.slice s.A0 s.l0.length s.c0) rfl (fun w' hw' => by have q := held_now hw' x0; go_simp) hS ?_
  refine tk 2 (.int .i64 s.l0.length) rfl (fun w' hw' => by go_simp) hS ?_
  refine tk 3 (.pointer (some ⟨b, 1, none⟩)) rfl (fun w' hw' => by go_simp) hS ?_
  (try simp only [Act.put, List.setIfInBounds_toArray, List.set_cons_zero, List.set_cons_succ])
  refine tk 4 (.slice s.A1 s.l1.length s.c1) rfl (fun w' hw' => by have q := held_now hw' x1; go_simp) hS ?_
  refine tk 5 (.int .i64 s.l1.length) rfl (fun w' hw' => by go_simp) hS ?_
  refine tk 6 (.int .i64 s.l0.length) rfl (fun w' hw' => by go_simp) hS ?_
  refine tk 7 (.int .i64 s.l1.length) rfl (fun w' hw' => by go_simp) hS ?_
  (try simp only [Act.put, List.setIfInBounds_toArray, List.set_cons_zero, List.set_cons_succ])
  refine wpAnyH_done (by kernel_rfl) ?_ _
  have hmk := run_make_zeros W0 N (by omega)
  have HB0 := Lib.hid (HS.out.2.2.2.2.trans (hS.mono HS.out.2.2.2.2.size))
  clear hS hS0
  obtain ⟨w2, hw2⟩ : ∃ w2, w2 = W0.alloc (.cells (nums .i64 (List.replicate N 0)).toArray 2) := ⟨_, rfl⟩
  obtain ⟨R, hR⟩ : ∃ R, R = W0.heap.size := ⟨_, rfl⟩
  have hrow : RowI w2 R (sumsL s.l0.length s.l1.length (tat l) 0) := by
    have e : sumsL s.l0.length s.l1.length (tat l) 0 = List.replicate N 0 := by
      rw [HN.out]
      apply List.ext_getElem
      · simp [sumsL_length]
      intro k h1 h2
      rw [sumsL_get, List.getElem_replicate]
      unfold sumsK ownR pckR
      simp [sumR_zero]
    rw [hw2, hR, e]; exact heap_alloc_last _ _
  have HR := Lib.hid (And.intro hrow (And.intro (HB0.out.trans (show Below w.heap.size W0 w2 from by rw [hw2]; exact ((Below.refl W0.heap.size W0).alloc (Nat.le_refl _) _).mono HB0.out.size)) (by rw [hR]; exact HB0.out.size : w.heap.size ≤ R)))
  go_upto_region 3 with fail
  rw [← hw2, ← hR]
  clear hw2 hR hrow x0 x1 x2 x3 x4
  go_wp2_with fail
  go_loopw [8] (fun i wr => ∃ j : Nat, j ≤ l.length ∧ i = .int .i64 j ∧ Hid (RowI wr R (sumsL s.l0.length s.l1.length (tat l) j) ∧ Below w.heap.size w wr)) (fun i _ => 60 - (intOf i).toNat)
  case atStart => exact ⟨0, Nat.zero_le _, rfl, Lib.hid ⟨HR.out.1, HR.out.2.1⟩⟩
  case round =>
    obtain ⟨j, hj, rfl, HJ⟩ := hrel
    by_cases hlt : j < l.length
    · have hlti : (j : Int) < (l.length : Int) := by omega
      have j0 : (0 : Int) ≤ (j : Int) := by omega
      have ht := HS.out.2.1
      obtain ⟨q, hq⟩ : ∃ q, q = j / s.l1.length := ⟨_, rfl⟩
      obtain ⟨r, hr⟩ : ∃ r, r = j % s.l1.length := ⟨_, rfl⟩
      have hdv : Int.tdiv (j : Int) (s.l1.length : Int) = (q : Int) := by rw [hq]; exact (Int.ofNat_tdiv _ _).symm
      have hmd : Int.tmod (j : Int) (s.l1.length : Int) = (r : Int) := by rw [hr]; exact (Int.ofNat_tmod _ _).symm
      have hq5 : (q : Int) < 5 := by have := ht.quo j hlt; rw [hq]; omega
      have hrm : r < s.l1.length := by rw [hr]; exact Nat.mod_lt j (by have := ht.m1; omega)
      have hr5 : (r : Int) < 5 := by omega
      have hqn : q < s.l0.length := by
        rw [hq]
        have hl := HS.out.2.1.len
        exact Nat.div_lt_of_lt_mul (by rw [Nat.mul_comm, ← hl]; exact hlt)
      have hqw : IntKind.i64.wrap (q : Int) = (q : Int) := IntWalk.i64_in _ (by omega)
      have hrw : IntKind.i64.wrap (r : Int) = (r : Int) := IntWalk.i64_in _ (by omega)
      have q0 : (0 : Int) ≤ (q : Int) := by omega
      have r0 : (0 : Int) ≤ (r : Int) := by omega
      obtain ⟨x, hx⟩ : ∃ x, x = tat l j := ⟨_, rfl⟩
      have hxb : 0 ≤ x ∧ x ≤ 1000 := by rw [hx]; exact ht.bd j hlt
      have hv0 : wr.cell? (ad.add j) = some (.int .i64 x) := by
        have := HS.out.1 j (.int .i64 (tat l j)) (by simp [nums, tat, hlt, List.getD_eq_getElem?_getD])
        rw [hx]
        exact (HJ.out.2.cell (cell_size this)).trans this
      have hbd : ∀ k, 0 ≤ sumsK s.l0.length s.l1.length (tat l) j k ∧ sumsK s.l0.length s.l1.length (tat l) j k ≤ 25000 := fun k => by
        have := sums_bd (n := s.l0.length) (m := s.l1.length) (T := tat l) (i := j) (fun j' hj' => ht.bd j' (by omega)) k
        omega
      have hlen := sumsL_length s.l0.length s.l1.length (tat l) j
      obtain ⟨u1, hu1⟩ : ∃ u, u = sumsK s.l0.length s.l1.length (tat l) j q := ⟨_, rfl⟩
      obtain ⟨u2, hu2⟩ : ∃ u, u = sumsK s.l0.length s.l1.length (tat l) j (s.l0.length + r) := ⟨_, rfl⟩
      obtain ⟨u3, hu3⟩ : ∃ u, u = sumsK s.l0.length s.l1.length (tat l) j (s.l0.length + s.l1.length) := ⟨_, rfl⟩
      have b1 := hbd q
      have b2 := hbd (s.l0.length + r)
      have b3 := hbd (s.l0.length + s.l1.length)
      rw [← hu1] at b1
      rw [← hu2] at b2
      rw [← hu3] at b3
      have HXX := Lib.hid (And.intro hx (And.intro hq hr))
      have hnext := sums_next s.l0.length s.l1.length (tat l) j q r hq hr hqn hrm
      rw [← hx, ← hu1, ← hu2, ← hu3] at hnext
      have hnum := HN.out
      have hr1 := HJ.out.1
      have t1 := hr1.cell (k := q) (by omega)
      have t2 := hr1.cell (k := s.l0.length + r) (by omega)
      have t3 := hr1.cell (k := s.l0.length + s.l1.length) (by omega)
      rw [sumsL_at _ _ _ _ _ (by omega), ← hu1] at t1
      rw [sumsL_at _ _ _ _ _ (by omega), ← hu2] at t2
      rw [sumsL_at _ _ _ _ _ (by omega), ← hu3] at t3
      have hadR : (ad.add j).block ≠ R := by
        have h1 := cell_size (HS.out.1 j (.int .i64 (tat l j)) (by simp [nums, tat, hlt, List.getD_eq_getElem?_getD]))
        have h2 := HR.out.2.2
        omega
      have p1 : (q : Int) < (N : Int) := by omega
      have p2 : ((s.l0.length + r : Nat) : Int) < (N : Int) := by omega
      have p3 : ((s.l0.length + s.l1.length : Nat) : Int) < (N : Int) := by omega
      have w4 : IntKind.i64.wrap ((s.l0.length : Int) + (r : Int)) = ((s.l0.length + r : Nat) : Int) := by rw [IntWalk.i64_in _ (by omega)]; push_cast; rfl
      have w5 : IntKind.i64.wrap ((s.l0.length : Int) + (s.l1.length : Int)) = ((s.l0.length + s.l1.length : Nat) : Int) := by rw [IntWalk.i64_in _ (by omega)]; push_cast; rfl
      have z1 : IntKind.i64.wrap (u1 + x) = u1 + x := IntWalk.i64_in _ (by omega)
      have z2 : IntKind.i64.wrap (u2 + x) = u2 + x := IntWalk.i64_in _ (by omega)
      have z3 : IntKind.i64.wrap (u3 + x) = u3 + x := IntWalk.i64_in _ (by omega)
      have o1 : (0 : Int) ≤ ((s.l0.length + r : Nat) : Int) := by omega
      have o2 : (0 : Int) ≤ ((s.l0.length + s.l1.length : Nat) : Int) := by omega
      obtain ⟨i2, hi2⟩ : ∃ i2, i2 = s.l0.length + r := ⟨_, rfl⟩
      obtain ⟨i3, hi3⟩ : ∃ i3, i3 = s.l0.length + s.l1.length := ⟨_, rfl⟩
      rw [← hi2] at w4 p2 o1 t2 hnext
      rw [← hi3] at w5 p3 o2 t3 hnext
      have HIX := Lib.hid (And.intro hadR (And.intro (by omega : q < N ∧ i2 < N ∧ i3 < N) (by omega : q ≠ i2 ∧ q ≠ i3 ∧ i2 ≠ i3)))
      have HROW0 := Lib.hid (And.intro hr1 (And.intro HJ.out.2 (And.intro hv0 (by rw [hlen, hnum] : (sumsL s.l0.length s.l1.length (tat l) j).length = N))))
      have HNX := Lib.hid hnext
      have HU := Lib.hid (And.intro (show tat (sumsL s.l0.length s.l1.length (tat l) j) i2 = u2 by rw [hi2, sumsL_at _ _ _ _ _ (by omega), ← hu2]) (show tat (sumsL s.l0.length s.l1.length (tat l) j) i3 = u3 by rw [hi3, sumsL_at _ _ _ _ _ (by omega), ← hu3]))
      have hv := hv0
      clear ht hx hbd hlen hu1 hu2 hu3 hnext hnum hr1 hq hr hadR ww1 ww2 hqn hrm HJ hi2 hi3 t2 t3 hv0
      go_upto_region 6 with fail
      have kq := kept_cell' t1
      have kv := kept_cell' hv
      refine wp_region_kept_tail 12 wr.heap.size wr (by kernel_rfl) (by kernel_rfl) (Below.refl _ _) ?_
      simp only [List.take_succ_cons, List.take_zero, List.drop_succ_cons, List.drop_zero]
      repeat (go_big_quiet_step (fail))
      refine wpQuiet_nil ?_
      rintro _ ⟨X, rfl⟩
      obtain ⟨V6, hV⟩ : ∃ V, V = X.1 := ⟨_, rfl⟩
      have hX := X.2
      rw [← hV] at hX ⊢
      clear hV X kq kv t1 hv
      have hrV := HROW0.out.1.below hX
      have fV := hrV.free q
      have tV := hrV.cell (k := q) (by rw [HROW0.out.2.2.2]; have := HIX.out; omega)
      have hvV := (hX.cell (cell_size HROW0.out.2.2.1)).trans HROW0.out.2.2.1
      obtain ⟨e1, he⟩ : ∃ e, e = V6.setCell ⟨R, q, none⟩ (.int .i64 (u1 + x)) := ⟨_, rfl⟩
      have hrN := hrV.set q (u1 + x)
      rw [← he] at hrN
      have hvN : e1.cell? (ad.add j) = some (.int .i64 x) := by
        rw [World.cell?_of_block (w := V6) (show e1.heap[(ad.add j).block]? = V6.heap[(ad.add j).block]? from by rw [he]; exact heap_setCell_other _ _ _ _ HIX.out.1)]; exact hvV
      have hbN : Below w.heap.size w e1 := by rw [he]; exact below_setB (HROW0.out.2.1.trans (hX.mono HROW0.out.2.1.size)) HR.out.2.2 _
      have HROW6 := Lib.hid (And.intro hrN (And.intro hbN (And.intro hvN (show ((sumsL s.l0.length s.l1.length (tat l) j).set q (u1 + x)).length = N by rw [List.length_set]; exact HROW0.out.2.2.2))))
      clear hX hrV hvV hrN hbN hvN
      go_upto_region 7 with fail
      rw [← he]
      clear he tV fV
      have t2 := HROW6.out.1.cell (k := i2) (by rw [HROW6.out.2.2.2]; exact HIX.out.2.1.2.1)
      rw [tat_set_ne _ _ HIX.out.2.2.1, HU.out.1] at t2
      have hv := HROW6.out.2.2.1
      have kq := kept_cell' t2
      have kv := kept_cell' hv
      refine wp_region_kept_tail 14 e1.heap.size e1 (by kernel_rfl) (by kernel_rfl) (Below.refl _ _) ?_
      simp only [List.take_succ_cons, List.take_zero, List.drop_succ_cons, List.drop_zero]
      repeat (go_big_quiet_step (fail))
      refine wpQuiet_nil ?_
      rintro _ ⟨X, rfl⟩
      obtain ⟨V7, hV⟩ : ∃ V, V = X.1 := ⟨_, rfl⟩
      have hX := X.2
      rw [← hV] at hX ⊢
      clear hV X kq kv t2 hv
      have hrV := HROW6.out.1.below hX
      have fV := hrV.free i2
      have tV := hrV.cell (k := i2) (by rw [HROW6.out.2.2.2]; have := HIX.out; omega)
      have hvV := (hX.cell (cell_size HROW6.out.2.2.1)).trans HROW6.out.2.2.1
      obtain ⟨e2, he⟩ : ∃ e, e = V7.setCell ⟨R, i2, none⟩ (.int .i64 (u2 + x)) := ⟨_, rfl⟩
      have hrN := hrV.set i2 (u2 + x)
      rw [← he] at hrN
      have hvN : e2.cell? (ad.add j) = some (.int .i64 x) := by
        rw [World.cell?_of_block (w := V7) (show e2.heap[(ad.add j).block]? = V7.heap[(ad.add j).block]? from by rw [he]; exact heap_setCell_other _ _ _ _ HIX.out.1)]; exact hvV
      have hbN : Below w.heap.size w e2 := by rw [he]; exact below_setB (HROW6.out.2.1.trans (hX.mono HROW6.out.2.1.size)) HR.out.2.2 _
      have HROW7 := Lib.hid (And.intro hrN (And.intro hbN (And.intro hvN (show (((sumsL s.l0.length s.l1.length (tat l) j).set q (u1 + x)).set i2 (u2 + x)).length = N by rw [List.length_set]; exact HROW6.out.2.2.2))))
      clear hX hrV hvV hrN hbN hvN
      go_upto_region 8 with fail
      rw [← he]
      clear he tV fV
      have t3 := HROW7.out.1.cell (k := i3) (by rw [HROW7.out.2.2.2]; exact HIX.out.2.1.2.2)
      rw [tat_set_ne _ _ HIX.out.2.2.2.2, tat_set_ne _ _ HIX.out.2.2.2.1, HU.out.2] at t3
      have hv := HROW7.out.2.2.1
      have kq := kept_cell' t3
      have kv := kept_cell' hv
      refine wp_region_kept_tail 12 e2.heap.size e2 (by kernel_rfl) (by kernel_rfl) (Below.refl _ _) ?_
      simp only [List.take_succ_cons, List.take_zero, List.drop_succ_cons, List.drop_zero]
      repeat (go_big_quiet_step (fail))
      refine wpQuiet_nil ?_
      rintro _ ⟨X, rfl⟩
      obtain ⟨V8, hV⟩ : ∃ V, V = X.1 := ⟨_, rfl⟩
      have hX := X.2
      rw [← hV] at hX ⊢
      clear hV X kq kv t3 hv
      have hrV := HROW7.out.1.below hX
      have fV := hrV.free i3
      have tV := hrV.cell (k := i3) (by rw [HROW7.out.2.2.2]; have := HIX.out; omega)
      have hvV := (hX.cell (cell_size HROW7.out.2.2.1)).trans HROW7.out.2.2.1
      obtain ⟨e3, he⟩ : ∃ e, e = V8.setCell ⟨R, i3, none⟩ (.int .i64 (u3 + x)) := ⟨_, rfl⟩
      have hrN := hrV.set i3 (u3 + x)
      rw [← he] at hrN
      have hvN : e3.cell? (ad.add j) = some (.int .i64 x) := by
        rw [World.cell?_of_block (w := V8) (show e3.heap[(ad.add j).block]? = V8.heap[(ad.add j).block]? from by rw [he]; exact heap_setCell_other _ _ _ _ HIX.out.1)]; exact hvV
      have hbN : Below w.heap.size w e3 := by rw [he]; exact below_setB (HROW7.out.2.1.trans (hX.mono HROW7.out.2.1.size)) HR.out.2.2 _
      have HROW8 := Lib.hid (And.intro hrN (And.intro hbN (And.intro hvN (show ((((sumsL s.l0.length s.l1.length (tat l) j).set q (u1 + x)).set i2 (u2 + x)).set i3 (u3 + x)).length = N by rw [List.length_set]; exact HROW7.out.2.2.2))))
      clear hX hrV hvV hrN hbN hvN
      go_upto_region 5 with fail
      rw [← he]
      clear he tV fV
      go_wp2_with fail
      go_roundw
      case rel => exact ⟨j + 1, by omega, by go_num, Lib.hid ⟨by rw [HNX.out]; exact HROW8.out.1, HROW8.out.2.1⟩⟩
      case measure => simp [intOf]; omega
    · obtain rfl : j = l.length := by omega
      have hnlt : ¬ ((l.length : Int) < (l.length : Int)) := by omega
      go_wp2_with fail
      have h := HJ.out
      rw [HS.out.2.2.2.1] at h
      refine bodyPost_ret (results_tmp (t := 4) rfl _ _ _) rfl ?_
      exact ⟨R, rfl, h.1, HR.out.2.2, h.2⟩
theorem bes_ref {n : Int} {r : Int × Int} (hr : RgOk r) (h0 : 0 ≤ n) (h1 : n ≤ 125000) : peaveyref11_beside.f n r.1 r.2 = some (bes n r) := by
  obtain ⟨a, b⟩ := r
  unfold RgOk at hr
  simp only at hr
  unfold peaveyref11_beside.f bes mx wrap64
  congr 1
  omega
def wrgT (s : ShM) (l : List Int) (k : Nat) : Int := sumR k fun i => bes (sumsK s.l0.length s.l1.length (tat l) s.l4.length i) (rgAt ((talL s).map pr) i)
theorem wrgT_end {s : ShM} (hS : s.Ok) (l : List Int) : wrgT s l (s.l0.length + s.l1.length + 1) = wrongS s.sh (tat l) := by
  unfold wrgT wrongS
  rw [sumR_succ, sumR_split, ShM.len0, ShM.len1]
  have e1 : (sumR s.l0.length fun i => bes (sumsK s.l0.length s.l1.length (tat l) s.l4.length i) (rgAt ((talL s).map pr) i)) = sumR s.l0.length fun o => bes (ownS s.l1.length (tat l) o) (rgAt s.sh.os o) := sumR_congr fun i hi => by
    rw [sums_end hS, if_pos hi, talL_at, if_pos hi]
  have e2 : (sumR s.l1.length fun i => bes (sumsK s.l0.length s.l1.length (tat l) s.l4.length (s.l0.length + i)) (rgAt ((talL s).map pr) (s.l0.length + i))) = sumR s.l1.length fun p => bes (pckS s.l0.length s.l1.length (tat l) p) (rgAt s.sh.ps p) := sumR_congr fun i hi => by
    rw [sums_end hS, if_neg (by omega), if_pos (by omega), talL_at, if_neg (by omega), if_pos (by omega), Nat.add_sub_cancel_left]
  rw [e1, e2, sums_end hS, if_neg (by omega), if_neg (by omega), talL_at, if_neg (by omega), if_neg (by omega), if_pos rfl]
  omega
set_option maxHeartbeats 4000000 in
set_option maxRecDepth 100000 in
theorem wrongOf_any (s : ShM) (A : Option Addr) (c : Nat) (l : List Int) (w : World) (h : ShR w s) (hS : s.Ok) (hl : Kd.C (Kd.int .i64) w A l.length l) (hlc : l.length ≤ c) (hin : InL s.sh l) (n : Int) (hn : n = wrongS s.sh (tat l)) :
    Calls Tryd.prog 48 #[.agg #[.slice s.A0 s.l0.length s.c0, .slice s.A1 s.l1.length s.c1, .int .i64 s.a2, .int .i64 s.a3, .slice s.A4 s.l4.length s.c4], .slice A l.length c] w fun e w' => e = .returned (.int .i64 n) ∧ Below w.heap.size w w' := by
  obtain ⟨W, hW⟩ : ∃ W, W = w.alloc (.cells #[.slice s.A0 s.l0.length s.c0, .slice s.A1 s.l1.length s.c1, .int .i64 s.a2, .int .i64 s.a3, .slice s.A4 s.l4.length s.c4] 26) := ⟨_, rfl⟩
  have hb : Below w.heap.size w W := by rw [hW]; exact (Below.refl _ _).alloc (Nat.le_refl _) _
  have hX : BoxS W w.heap.size s := by rw [hW]; exact box_new w s
  have ht := tok_in hS hin
  have n5 : (s.l0.length : Int) ≤ 5 := by have := ht.n5; omega
  have m5 : (s.l1.length : Int) ≤ 5 := by have := ht.m5; omega
  have HS := Lib.hid (And.intro hS (And.intro h (And.intro hl (And.intro hlc (And.intro hin (And.intro ht hb))))))
  have HRES := Lib.hid (hn.trans (wrgT_end hS l).symm)
  obtain ⟨N, hN⟩ : ∃ N, N = s.l0.length + s.l1.length + 1 := ⟨_, rfl⟩
  have HN := Lib.hid hN
  have N11 : (N : Int) ≤ 11 := by omega
  have x0 := hX.c0
  have x1 := hX.c1
  have x2 := hX.c2
  have x3 := hX.c3
  have x4 := hX.c4
  obtain ⟨b, hbe⟩ : ∃ b, b = w.heap.size := ⟨_, rfl⟩
  rw [← hbe] at x0 x1 x2 x3 x4
  clear h hS hl hlc hin hn hb hX ht hN
  go_enter Tryd.func48, Tryd.ntmps48
  go_upto_region 1 with fail
  rw [← hW, ← hbe]
  clear hW hbe
  have hS : Below W.heap.size W W.drew := (Below.refl _ _).drew
  refine wp_region_held_list (k := 7) rfl (fun w' => Below W.heap.size W w') (by kernel_rfl) ?_
  generalize W.drew = W0 at hS ⊢
  refine tk 0 (.agg #[.slice s.A0 s.l0.length s.c0, .slice s.A1 s.l1.length s.c1, .int .i64 s.a2, .int .i64 s.a3, .slice s.A4 s.l4.length s.c4]) rfl (fun w' hw' => by have q0 := held_now hw' x0; have q1 := held_now hw' x1; have q2 := held_now hw' x2; have q3 := held_now hw' x3; have q4 := held_now hw' x4; go_simp) hS ?_
  refine tk 1 (.slice A l.length c) rfl (fun w' hw' => by go_simp) hS ?_
  refine tk 3 (.agg #[.slice s.A0 s.l0.length s.c0, .slice s.A1 s.l1.length s.c1, .int .i64 s.a2, .int .i64 s.a3, .slice s.A4 s.l4.length s.c4]) rfl (fun w' hw' => by have q0 := held_now hw' x0; have q1 := held_now hw' x1; have q2 := held_now hw' x2; have q3 := held_now hw' x3; have q4 := held_now hw' x4; go_simp) hS ?_
  refine step_list (i := 2) (by kernel_rfl) rfl (by rfl) (fun K hK => ?_)
  go_simp
  have hw0 : Below w.heap.size w W0 := HS.out.2.2.2.2.2.2.trans (hS.mono HS.out.2.2.2.2.2.2.size)
  refine (sums_any s A c l W0 (HS.out.2.1.below hw0) HS.out.1 (Kd.C_below HS.out.2.2.1 hw0) HS.out.2.2.2.1 HS.out.2.2.2.2.1).mono ?_
  rintro e W1 ⟨R, rfl, hrow, hRs, hb1⟩
  have hS1 := hS.trans (hb1.mono hS.size)
  rw [← HN.out]
  refine hK _ _ hS1 ?_
  clear hK K
  (try simp only [Act.put, List.setIfInBounds_toArray, List.set_cons_zero, List.set_cons_succ])
  refine step_list (i := 4) (by kernel_rfl) rfl (by rfl) (fun K hK => ?_)
  go_simp
  have hw1 : Below w.heap.size w W1 := hw0.trans (hb1.mono hw0.size)
  have hs1 := HS.out.2.1.below hw1
  refine (peaveyref11_Tallies.calls s.A0 s.c0 s.l0 s.A1 s.c1 s.l1 s.a2 s.a3 s.A4 s.c4 s.l4 (talL s) W1 hs1.r0 hs1.h0 hs1.r1 hs1.h1 hs1.r4 hs1.h4 (tallies_is s (by have := HS.out.2.2.2.2.2.1.n5; omega) (by have := HS.out.2.2.2.2.2.1.m5; omega))).mono ?_
  rintro e W2 ⟨v, rfl, hrv, hb2⟩
  obtain ⟨TA, tc, rfl, htc, hrt⟩ := Kd.R_reads hrv
  have hS2 := hS1.trans (hb2.mono hS1.size)
  have HW2 := Lib.hid (And.intro (hw1.trans (hb2.mono hw1.size)) (And.intro (hrow.below hb2) hrt))
  refine hK _ _ hS2 ?_
  clear hK K hS hS1 hb1 hb2 hw0 hw1 hs1 hrow hrt hrv hRs
  have hS := hS2
  (try simp only [Act.put, List.setIfInBounds_toArray, List.set_cons_zero, List.set_cons_succ])
  refine tk 5 (.slice (some ⟨R, 0, none⟩) N N) rfl (fun w' hw' => by go_simp) hS ?_
  refine tk 6 (.slice TA (talL s).length tc) rfl (fun w' hw' => by go_simp) hS ?_
  refine wpAnyH_done (by kernel_rfl) ?_ _
  clear hS hS2 x0 x1 x2 x3 x4
  have htl : (talL s).length = N := by rw [talL_length, HN.out]
  obtain ⟨aT, rfl⟩ : ∃ aT, TA = some aT := by
    obtain ⟨ad, e, _⟩ := at_rg HW2.out.2.2 (i := 0) (by rw [htl, HN.out]; omega)
    exact ⟨ad, e⟩
  have htli : ((talL s).length : Int) = (N : Int) := by rw [htl]
  have HTL := Lib.hid htl
  clear htl
  go_wp2_with fail
  go_loopw [7, 8] (fun v7 i wr => ∃ j : Nat, j ≤ N ∧ i = .int .i64 j ∧ v7 = .int .i64 (wrgT s l j) ∧ Hid (Below W2.heap.size W2 wr)) (fun _ i _ => 60 - (intOf i).toNat)
  case atStart => exact ⟨0, Nat.zero_le _, rfl, rfl, Lib.hid (Below.refl _ _)⟩
  case round =>
    obtain ⟨j, hj, rfl, rfl, HJ⟩ := hrel
    by_cases hlt : j < N
    · have hlti : (j : Int) < (N : Int) := by omega
      have j0 : (0 : Int) ≤ (j : Int) := by omega
      have hrow := HW2.out.2.1.below HJ.out
      have hlen := sumsL_length s.l0.length s.l1.length (tat l) s.l4.length
      have hx0 := hrow.cell (k := j) (by rw [hlen, ← HN.out]; exact hlt)
      rw [sumsL_at _ _ _ _ _ (by rw [← HN.out]; exact hlt)] at hx0
      obtain ⟨x, hx⟩ : ∃ x, x = sumsK s.l0.length s.l1.length (tat l) s.l4.length j := ⟨_, rfl⟩
      rw [← hx] at hx0
      have hxb : 0 ≤ x ∧ x ≤ 25000 := by
        have h1 := sums_bd (n := s.l0.length) (m := s.l1.length) (T := tat l) (i := s.l4.length) (fun j' hj' => HS.out.2.2.2.2.2.1.bd j' (by rw [← HS.out.2.2.2.2.2.1.l4]; exact hj')) j
        have h2 := ShM.l25 HS.out.1
        rw [← hx] at h1
        omega
      obtain ⟨a5, e5, hg1, hg2⟩ := at_rg (Kd.C_below HW2.out.2.2 HJ.out) (i := j) (by rw [HTL.out]; exact hlt)
      obtain rfl := Option.some.inj e5
      have hrg := talL_ok HS.out.1 (i := j) (by rw [← HN.out]; exact hlt)
      obtain ⟨g, hg⟩ : ∃ g, g = rgAt ((talL s).map pr) j := ⟨_, rfl⟩
      rw [← hg] at hg1 hg2 hrg
      obtain ⟨g1, g2⟩ := g
      dsimp only at hg1 hg2
      have hbb := bes_bd hrg hxb.1 (by omega : x ≤ 125000)
      have hval := bes_ref hrg hxb.1 (by omega : x ≤ 125000)
      have hnx : wrgT s l (j + 1) = wrgT s l j + bes x (g1, g2) := by unfold wrgT; rw [sumR_succ, ← hx, ← hg]
      have hwb : 0 ≤ wrgT s l j ∧ wrgT s l j ≤ 2000000 := by
        unfold wrgT
        have := sumR_k' (c := 125000) (n := j) (f := fun i => bes (sumsK s.l0.length s.l1.length (tat l) s.l4.length i) (rgAt ((talL s).map pr) i)) (fun i hi => bes_bd (talL_ok HS.out.1 (by rw [← HN.out]; omega)) (by
          have h1 := sums_bd (n := s.l0.length) (m := s.l1.length) (T := tat l) (i := s.l4.length) (fun j' hj' => HS.out.2.2.2.2.2.1.bd j' (by rw [← HS.out.2.2.2.2.2.1.l4]; exact hj')) i
          omega) (by
          have h1 := sums_bd (n := s.l0.length) (m := s.l1.length) (T := tat l) (i := s.l4.length) (fun j' hj' => HS.out.2.2.2.2.2.1.bd j' (by rw [← HS.out.2.2.2.2.2.1.l4]; exact hj')) i
          have h2 := ShM.l25 HS.out.1
          omega))
        omega
      obtain ⟨y, hy⟩ : ∃ y, y = bes x (g1, g2) := ⟨_, rfl⟩
      obtain ⟨nk, hnk⟩ : ∃ nk, nk = wrgT s l j := ⟨_, rfl⟩
      rw [← hy] at hval hbb hnx
      rw [← hnk] at hwb hnx ⊢
      have wy : IntKind.i64.wrap (nk + y) = nk + y := IntWalk.i64_in _ (by omega)
      have HV := Lib.hid hval
      have HX := Lib.hid hnx
      clear hrow hlen hx hrg hg hval hnx hy hnk hxb hbb hwb
      go_upto_region 6 with fail
      have hS : Below wr.heap.size wr wr.drew := (Below.refl _ _).drew
      refine wp_region_held_list (k := 12) rfl (fun w' => Below wr.heap.size wr w') (by kernel_rfl) ?_
      generalize wr.drew = W5 at hS ⊢
      refine tk 0 (.int .i64 nk) rfl (fun w' hw' => by go_simp) hS ?_
      refine tk 1 (.slice (some ⟨R, 0, none⟩) N N) rfl (fun w' hw' => by go_simp) hS ?_
      (try simp only [Act.put, List.setIfInBounds_toArray, List.set_cons_zero, List.set_cons_succ])
      refine tk 2 (.int .i64 j) rfl (fun w' hw' => by go_simp) hS ?_
      refine tk 3 (.pointer (some ⟨R, j, none⟩)) rfl (fun w' hw' => by go_simp) hS ?_
      refine tk 4 (.int .i64 x) rfl (fun w' hw' => by have q := held_now hw' hx0; go_simp) hS ?_
      refine tk 5 (.slice (some aT) (talL s).length tc) rfl (fun w' hw' => by go_simp) hS ?_
      (try simp only [Act.put, List.setIfInBounds_toArray, List.set_cons_zero, List.set_cons_succ])
      refine tk 6 (.int .i64 j) rfl (fun w' hw' => by go_simp) hS ?_
      refine tk 7 (.pointer (some (aT.add (j * 2)))) rfl (fun w' hw' => by go_simp) hS ?_
      refine tk 8 (.agg #[.int .i64 g1, .int .i64 g2]) rfl (fun w' hw' => by have q1 := held_now hw' hg1; have q2 := held_now hw' hg2; go_simp) hS ?_
      refine step_list (i := 9) (by kernel_rfl) rfl (by rfl) (fun K hK => ?_)
      go_simp
      refine (peaveyref11_beside.calls x g1 g2 y W5 HV.out).mono ?_
      rintro e W6 ⟨rfl, hb6⟩
      have hS6 := hS.trans (hb6.mono hS.size)
      refine hK _ _ hS6 ?_
      clear hK K hS hb6
      have hS := hS6
      clear hS6
      (try simp only [Act.put, List.setIfInBounds_toArray, List.set_cons_zero, List.set_cons_succ])
      refine tk 10 (.int .i64 (nk + y)) rfl (fun w' hw' => by go_simp) hS ?_
      refine tk 11 (.int .i64 (nk + y)) rfl (fun w' hw' => by go_simp) hS ?_
      have H6 := Lib.hid (HJ.out.trans (hS.mono HJ.out.size))
      refine wpAnyH_done (by kernel_rfl) ?_ _
      clear hS hx0 hg1 hg2
      go_wp2_with fail
      go_roundw
      case rel => exact ⟨j + 1, by omega, by go_num, by rw [HX.out], H6⟩
      case measure => simp [intOf]; omega
    · obtain rfl : j = N := by omega
      have hnlt : ¬ ((j : Int) < (j : Int)) := by omega
      go_wp2_with fail
      refine bodyPost_ret (results_tmp (t := 4) rfl _ _ _) rfl ?_
      refine ⟨?_, HW2.out.1.trans (HJ.out.mono HW2.out.1.size)⟩
      rw [HRES.out, HN.out]; rfl
set_option maxHeartbeats 4000000 in
set_option maxRecDepth 100000 in
theorem refWrong_ok (s : ShM) (A : Option Addr) (c : Nat) (l : List Int) (w : World) (h : ShR w s) (hl : Kd.C (Kd.int .i64) w A l.length l) (hlc : l.length ≤ c) (hS : s.Ok) (hin : InL s.sh l) (n : Int) (hn : n = wrongS s.sh (tat l)) :
    Calls Tryd.prog 19 #[.agg #[.slice s.A0 s.l0.length s.c0, .slice s.A1 s.l1.length s.c1, .int .i64 s.a2, .int .i64 s.a3, .slice s.A4 s.l4.length s.c4], .slice A l.length c] w fun e w' => e = .returned (.tuple #[.int .i64 n, .int .i64 0]) ∧ Below w.heap.size w w' := by
  obtain ⟨W, hW⟩ : ∃ W, W = w.alloc (.cells #[.slice s.A0 s.l0.length s.c0, .slice s.A1 s.l1.length s.c1, .int .i64 s.a2, .int .i64 s.a3, .slice s.A4 s.l4.length s.c4] 26) := ⟨_, rfl⟩
  have hb : Below w.heap.size w W := by rw [hW]; exact (Below.refl _ _).alloc (Nat.le_refl _) _
  obtain ⟨b, hbe⟩ : ∃ b, b = w.heap.size := ⟨_, rfl⟩
  have hX : BoxS W b s := by rw [hW, hbe]; exact box_new w s
  have HX := Lib.hid (And.intro hb hX)
  have HG := Lib.hid (And.intro h (And.intro hl hlc))
  have HC : Hid (∀ V, Below w.heap.size w V → Calls Tryd.prog 21 #[.agg #[.slice s.A0 s.l0.length s.c0, .slice s.A1 s.l1.length s.c1, .int .i64 s.a2, .int .i64 s.a3, .slice s.A4 s.l4.length s.c4]] V fun e w' => e = .returned (.int .i64 0) ∧ Below V.heap.size V w') := Lib.hid fun V hV => by have := refCheck_any s V (h.below hV) (by have := ShM.l25 hS; omega); rw [(csE_ok s).2 hS] at this; exact this
  have HI : Hid (∀ V, Below w.heap.size w V → Calls Tryd.prog 41 #[.agg #[.slice s.A0 s.l0.length s.c0, .slice s.A1 s.l1.length s.c1, .int .i64 s.a2, .int .i64 s.a3, .slice s.A4 s.l4.length s.c4], .slice A l.length c] V fun e w' => e = .returned (.int .i64 0) ∧ Below V.heap.size V w') := Lib.hid fun V hV => by have hs := h.below hV; exact peaveyref11_IsTable.calls 200 s.A0 s.c0 s.l0 s.A1 s.c1 s.l1 s.a2 s.a3 s.A4 s.c4 s.l4 A c l 0 V hs.r0 hs.h0 hs.r1 hs.h1 hs.r4 hs.h4 (Kd.C_below hl hV) hlc (isTable_ok s l (by have := ShM.l25 hS; omega) (by have := ShM.l25 hS; omega) hin)
  have HWR : Hid (∀ V, Below w.heap.size w V → Calls Tryd.prog 48 #[.agg #[.slice s.A0 s.l0.length s.c0, .slice s.A1 s.l1.length s.c1, .int .i64 s.a2, .int .i64 s.a3, .slice s.A4 s.l4.length s.c4], .slice A l.length c] V fun e w' => e = .returned (.int .i64 n) ∧ Below V.heap.size V w') := Lib.hid fun V hV => wrongOf_any s A c l V (h.below hV) hS (Kd.C_below hl hV) hlc hin n hn
  clear hX hb h hl hlc hS hin hn
  go_enter Tryd.func19, Tryd.ntmps19
  go_upto_region 1 with fail
  rw [← hW, ← hbe]
  clear hW hbe
  have hX := HX.out.2
  have x0 := hX.c0
  have x1 := hX.c1
  have x2 := hX.c2
  have x3 := hX.c3
  have x4 := hX.c4
  clear hX
  go_upto_region 3 with (go_at_call 21; refine (HC.out _ HX.out.1).mono ?_; rintro e v1 ⟨rfl, h1⟩; have Hv1 := Lib.hid h1; clear h1)
  clear x0 x1 x2 x3 x4
  have hB1 : Below w.heap.size w v1 := HX.out.1.trans (Hv1.out.mono HX.out.1.size)
  have HB1 := Lib.hid hB1
  clear hB1
  have hX := HX.out.2.below Hv1.out
  have x0 := hX.c0
  have x1 := hX.c1
  have x2 := hX.c2
  have x3 := hX.c3
  have x4 := hX.c4
  clear hX
  go_upto_region 5 with (go_at_call 41; refine (HI.out _ HB1.out).mono ?_; rintro e v2 ⟨rfl, h1⟩; have Hv2 := Lib.hid h1; clear h1)
  clear x0 x1 x2 x3 x4
  have hB2 : Below w.heap.size w v2 := HB1.out.trans (Hv2.out.mono HB1.out.size)
  have hb2 : Below W.heap.size W v2 := Hv1.out.trans (Hv2.out.mono Hv1.out.size)
  have HB2 := Lib.hid (And.intro hB2 hb2)
  clear hB2 hb2
  have hX := HX.out.2.below HB2.out.2
  have x0 := hX.c0
  have x1 := hX.c1
  have x2 := hX.c2
  have x3 := hX.c3
  have x4 := hX.c4
  clear hX
  go_wp2_with (go_at_call 48; refine (HWR.out _ HB2.out.1).mono ?_; rintro e v3 ⟨rfl, h1⟩; have Hv3 := Lib.hid h1; clear h1)
  have HB : Hid (Below w.heap.size w v3) := Lib.hid (HB2.out.1.trans (Hv3.out.mono HB2.out.1.size))
  refine bodyPost_ret (results_tmp2 rfl _ _ _) rfl ?_
  exact ⟨rfl, HB.out⟩
end Go.Proofs.YtcbhnhoicecnnaaDoor.Hand
namespace Go.Proofs.YtcbhnhoicecnnaaDoor.Hand
set_option linter.unusedVariables false
set_option linter.unusedSimpArgs false
open Go.Proofs.YtcbhnhoicecnnaaDoor.PrK
def In3 (l : List Int) : Prop := ∀ x ∈ l, -1 ≤ x ∧ x ≤ 1
theorem In3.cons {x : Int} {l : List Int} : In3 (x :: l) ↔ (-1 ≤ x ∧ x ≤ 1) ∧ In3 l := by simp [In3]
theorem inW3_of {l : List Int} (h : In3 l) : InW3 l := fun i hi => by
  have := h l[i] (List.getElem_mem _)
  unfold tat
  rw [List.getD_eq_getElem?_getD, List.getElem?_eq_getElem hi, Option.getD_some]
  exact this
theorem bound_congr {S : Sh} {V W : Wts} (ho : ∀ i, i < S.n → V.wo i = W.wo i) (hp : ∀ i, i < S.m → V.wp i = W.wp i) (hl : V.wl = W.wl) : boundS S V = boundS S W := by
  unfold boundS
  rw [hl]
  congr 1
  · congr 1
    congr 1
    · exact sumR_congr fun i hi => by rw [ho i hi]
    · exact sumR_congr fun i hi => by rw [hp i hi]
  · refine sumR_congr fun o h1 => sumR_congr fun p h2 => ?_
    unfold Wts.cell
    rw [ho o h1, hp p h2, hl]
theorem wtsL_at (far : Int × Int → Int) (n m k : Nat) : tat (wtsL far n m) k = if k < n then far gateN - far (ownN' k) else if k < n + m then far (pckN (k - n)) - far boomN else if k = n + m then far boomN - far gateN else 0 := by
  unfold wtsL wtsP wtsO tat
  rw [List.getD_eq_getElem?_getD]
  by_cases g1 : k < n
  · rw [if_pos g1, List.append_assoc, List.getElem?_append_left (by simpa using g1)]
    simp [g1]
  · rw [if_neg g1]
    by_cases g2 : k < n + m
    · rw [if_pos g2, List.append_assoc, List.getElem?_append_right (by simp; omega), List.getElem?_append_left (by simp; omega)]
      simp only [List.length_map, List.length_range]
      rw [List.getElem?_map, List.getElem?_range (by omega)]; rfl
    · rw [if_neg g2, List.getElem?_append_right (by simp; omega)]
      by_cases g3 : k = n + m
      · rw [if_pos g3, g3]; simp
      · rw [if_neg g3, List.getElem?_eq_none (by simp; omega)]; rfl
def bestL (s : ShM) : List Int := wtsL (findS s.sh (bestT s.sh)).2.far s.l0.length s.l1.length
theorem bestL_length (s : ShM) : (bestL s).length = s.l0.length + s.l1.length + 1 := by simp [bestL, wtsL, wtsP, wtsO]; omega
theorem bestL_bound {s : ShM} (hS : s.Ok) : boundS s.sh (wsW s.l0.length s.l1.length (bestL s)) = offS s.sh := by
  have h := (best_w hS).2
  rw [offS, ← h]
  refine bound_congr (fun i hi => ?_) (fun i hi => ?_) ?_
  · rw [ShM.len0] at hi
    simp only [wsW, bestL]
    rw [wtsL_at, if_pos hi]; rfl
  · rw [ShM.len1] at hi
    simp only [wsW, bestL]
    rw [wtsL_at, if_neg (by omega), if_pos (by omega), Nat.add_sub_cancel_left]; rfl
  · simp only [wsW, bestL]
    rw [wtsL_at, if_neg (by omega), if_neg (by omega), if_pos rfl]; rfl
theorem bestL_in {s : ShM} (hS : s.Ok) : InW3 (bestL s) := fun k hk => by
  rw [bestL_length] at hk
  have h := (best_w hS).1
  unfold bestL
  rw [wtsL_at]
  by_cases g1 : k < s.l0.length
  · rw [if_pos g1]; exact h.o k (by rw [ShM.len0]; exact g1)
  · rw [if_neg g1]
    by_cases g2 : k < s.l0.length + s.l1.length
    · rw [if_pos g2]; exact h.p (k - s.l0.length) (by rw [ShM.len1]; omega)
    · rw [if_neg g2, if_pos (by omega)]; exact h.l
theorem off_nonneg (S : Sh) : 0 ≤ offS S := wrong_nonneg _ _
end Go.Proofs.YtcbhnhoicecnnaaDoor.Hand
namespace Go.Proofs.YtcbhnhoicecnnaaDoor.Hand
set_option linter.unusedVariables false
set_option linter.unusedSimpArgs false
open Go.RowKit Go.Shelf Go.Maps Go.Proofs.YtcbhnhoicecnnaaDoorW.PrintWords Go.Proofs.YtcbhnhoicecnnaaDoorW.PrintLast Go.Proofs.YtcbhnhoicecnnaaDoorW.PrintMore Go.Proofs.YtcbhnhoicecnnaaDoor.PrK
def ShM.put (s : ShM) (A : Option Addr) (c : Nat) (l : List S24) : ShM := { s with A4 := A, c4 := c, l4 := l }
def ShM.whole (s : ShM) (a b : Int) : ShM := { s with a2 := a, a3 := b }
theorem ShR.put {W : World} {s : ShM} (h : ShR W s) {A : Option Addr} {c : Nat} {l : List S24} (hr : Kd.C k24 W A l.length l) (hc : l.length ≤ c) : ShR W (s.put A c l) := ⟨h.r0, h.h0, h.r1, h.h1, hr, hc⟩
theorem ShR.whole {W : World} {s : ShM} (h : ShR W s) (a b : Int) : ShR W (s.whole a b) := ⟨h.r0, h.h0, h.r1, h.h1, h.r4, h.h4⟩
end Go.Proofs.YtcbhnhoicecnnaaDoor.Hand
namespace Go.Proofs.YtcbhnhoicecnnaaDoor.Hand
set_option linter.unusedVariables false
set_option linter.unusedSimpArgs false
open Go.Proofs.YtcbhnhoicecnnaaDoor.PrK
theorem off_zero {S : Sh} (hS : S.Ok) : offS S = 0 ↔ ∃ U, Held S U := by
  constructor
  · intro h; exact ⟨_, (best_in hS).2, h⟩
  · rintro ⟨U, hU⟩
    have h1 := off_le hS hU.inn
    have h2 := off_nonneg S
    rw [hU.ok] at h1; omega
end Go.Proofs.YtcbhnhoicecnnaaDoor.Hand
namespace Go.Proofs.YtcbhnhoicecnnaaDoor.PrK
open Go.RowKit Go.Proofs.YtcbhnhoicecnnaaDoorW.PrintWords Go.Proofs.YtcbhnhoicecnnaaDoorW.PrintLast Go.Proofs.YtcbhnhoicecnnaaDoorW.PrintMore Go.Proofs.YtcbhnhoicecnnaaDoor.Hand
attribute [local go_sem] max2_int min2_int max_two min_two max_three min_three max_four min_four
set_option linter.unusedVariables false
set_option linter.unusedSimpArgs false
def peaveylaw11_rg.f (a0 : Int) (a1 : Int) : Option (Int × Int) := some (a0, a1)
set_option maxHeartbeats 8000000 in
set_option maxRecDepth 100000 in
theorem peaveylaw11_rg.calls (a0 : Int) (a1 : Int) (r1 : Int) (r2 : Int) (w : World) (h : peaveylaw11_rg.f a0 a1 = some (r1, r2)) :
    Calls Tryd.prog 40 #[.int .i64 a0, .int .i64 a1] w fun e w' => e = .returned (.agg #[.int .i64 r1, .int .i64 r2]) ∧ Below w.heap.size w w' := by
  have hu24 := Tryd.underlying24
  have HB := Aside0.mk (Below.refl w.heap.size w)
  have H : (some (a0, a1)) = some (r1, r2) := h
  clear h
  simp only [Option.some.injEq, Prod.mk.injEq] at H
  obtain ⟨rfl, rfl⟩ := H
  go_enter Tryd.func40, Tryd.ntmps40
  go_wp2_with (first | ((with_reducible refine gate_dst (N := 4) rfl ?_); refine box_event ?hg (N := 4) ?hd (cs := #[.int .i64 0, .int .i64 0]) (t := 24) ?hr ?_; (case hd => rfl); (case hg => rfl); (case hr => first | (go_simp; done) | (go_simp; rfl)); intro gb237 hg w3 hbox hb; have n0_ := Aside0.mk (below_step (by repeat (first | (with_reducible first | exact HB.out | apply below_alloc | apply pw_below_drewN | apply below_drew1) | exact HB.out)) hb); have n1_ := Aside0.mk (hbox); have n2_ := Aside0.mk ((by rw [hg]; exact (below_size (by repeat (first | (with_reducible first | exact HB.out | apply below_alloc | apply pw_below_drewN | apply below_drew1) | exact HB.out))) : w.heap.size ≤ gb237)); have n3_ := Aside0.mk ((by rw [hg]; exact (below_size (by repeat (first | (with_reducible first | exact HB.out | apply below_alloc | apply pw_below_drewN | apply below_drew1) | exact HB.out))) : w.heap.size ≤ gb237)); clear HB; have HB := n0_; have BK237 := n1_; have GW237 := n2_; have GE237 := n3_; clear n0_ n1_ n2_ n3_; clear hb hbox hg; have hcz4_0 : w3.cell? ⟨gb237, 0, none⟩ = some (.int .i64 0) := (blk_cell BK237.out 0).trans rfl; have hcz4_1 : w3.cell? ⟨gb237, 1, none⟩ = some (.int .i64 0) := (blk_cell BK237.out 1).trans rfl; have hfz4_0 := blk_frozen BK237.out 0; have hfz4_1 := blk_frozen BK237.out 1))
  refine bodyPost_ret (results_cell_row rfl _ _ gb237 24 #[.int .i64 a0, .int .i64 a1] (0, 0) _ rfl (by (with_reducible repeat (first | refine blk_drewN ?_ _ | refine blk_drew ?_ | refine blk_alloc ?_ _)); refine blk_put (cs := #[.int .i64 a0, .int .i64 0]) ?_ 1 _ rfl; (with_reducible repeat (first | refine blk_drewN ?_ _ | refine blk_drew ?_ | refine blk_alloc ?_ _)); refine blk_put (cs := #[.int .i64 0, .int .i64 0]) ?_ 0 _ rfl; (with_reducible repeat (first | refine blk_drewN ?_ _ | refine blk_drew ?_ | refine blk_alloc ?_ _)); exact BK237.out) Tryd.underlying24 rfl (by kernel_rfl)) rfl ?_
  exact ⟨by first | rfl | (simp [errW_none, errW_some] <;> rfl) | (simp [*, errW_none, errW_some] <;> rfl), by repeat (first | (with_reducible first | exact HB.out | apply below_alloc | apply pw_below_drewN | apply below_drew1 | refine below_set ?_ GE237.out) | exact HB.out)⟩
end Go.Proofs.YtcbhnhoicecnnaaDoor.PrK
namespace Go.Proofs.YtcbhnhoicecnnaaDoor.PrK
open Go.RowKit Go.Proofs.YtcbhnhoicecnnaaDoorW.PrintWords Go.Proofs.YtcbhnhoicecnnaaDoorW.PrintLast Go.Proofs.YtcbhnhoicecnnaaDoorW.PrintMore Go.Proofs.YtcbhnhoicecnnaaDoor.Hand
attribute [local go_sem] max2_int min2_int max_two min_two max_three min_three max_four min_four
set_option linter.unusedVariables false
set_option linter.unusedSimpArgs false
def peaveylaw11_Sheet.f (a0 : Int) : Option ((List (S24)) × (List (S24)) × Int × Int × (List (S24))) := (peaveylaw11_rg.f 5 6).bind fun bt300 => ((peaveylaw11_rg.f 4 4).bind fun bt302 => ((peaveylaw11_rg.f a0 a0).bind fun bt307 => ((peaveylaw11_rg.f 5 8).bind fun bt309 => ((peaveylaw11_rg.f 9 10).bind fun bt314 => ((peaveylaw11_rg.f 0 3).bind fun bt316 => ((peaveylaw11_rg.f 1 9).bind fun bt318 => ((peaveylaw11_rg.f 0 9).bind fun bt320 => ((peaveylaw11_rg.f 0 2).bind fun bt322 => (some ((([(⟨bt300.1, bt300.2⟩ : S24), (⟨bt302.1, bt302.2⟩ : S24)] : List (S24))), (([(⟨bt307.1, bt307.2⟩ : S24), (⟨bt309.1, bt309.2⟩ : S24)] : List (S24))), bt314.1, bt314.2, (([(⟨bt316.1, bt316.2⟩ : S24), (⟨bt318.1, bt318.2⟩ : S24), (⟨bt320.1, bt320.2⟩ : S24), (⟨bt322.1, bt322.2⟩ : S24)] : List (S24)))))))))))))
set_option maxHeartbeats 8000000 in
set_option maxRecDepth 100000 in
theorem peaveylaw11_Sheet.calls (a0 : Int) (r1 : List (S24)) (r2 : List (S24)) (r3 : Int) (r4 : Int) (r5 : List (S24)) (w : World) (h : peaveylaw11_Sheet.f a0 = some (r1, r2, r3, r4, r5)) :
    Calls Tryd.prog 49 #[.int .i64 a0] w fun e w' => ∃ v0_ v1_ v4_ : Value, e = .returned (.agg #[v0_, v1_, .int .i64 r3, .int .i64 r4, v4_]) ∧ Kd.R k24 24 w' w.heap.size (fun k_ => some k_ ≠ (v1_ : Value).ownBlock ∧ some k_ ≠ (v4_ : Value).ownBlock) v0_ r1 ∧ Kd.R k24 24 w' w.heap.size (fun k_ => some k_ ≠ (v0_ : Value).ownBlock ∧ some k_ ≠ (v4_ : Value).ownBlock) v1_ r2 ∧ Kd.R k24 24 w' w.heap.size (fun k_ => some k_ ≠ (v0_ : Value).ownBlock ∧ some k_ ≠ (v1_ : Value).ownBlock) v4_ r5 ∧ Below w.heap.size w w' := by
  have hu26 := Tryd.underlying26
  have HB := Aside0.mk (Below.refl w.heap.size w)
  have H : ((peaveylaw11_rg.f 5 6).bind fun bt300 => ((peaveylaw11_rg.f 4 4).bind fun bt302 => ((peaveylaw11_rg.f a0 a0).bind fun bt307 => ((peaveylaw11_rg.f 5 8).bind fun bt309 => ((peaveylaw11_rg.f 9 10).bind fun bt314 => ((peaveylaw11_rg.f 0 3).bind fun bt316 => ((peaveylaw11_rg.f 1 9).bind fun bt318 => ((peaveylaw11_rg.f 0 9).bind fun bt320 => ((peaveylaw11_rg.f 0 2).bind fun bt322 => (some ((([(⟨bt300.1, bt300.2⟩ : S24), (⟨bt302.1, bt302.2⟩ : S24)] : List (S24))), (([(⟨bt307.1, bt307.2⟩ : S24), (⟨bt309.1, bt309.2⟩ : S24)] : List (S24))), bt314.1, bt314.2, (([(⟨bt316.1, bt316.2⟩ : S24), (⟨bt318.1, bt318.2⟩ : S24), (⟨bt320.1, bt320.2⟩ : S24), (⟨bt322.1, bt322.2⟩ : S24)] : List (S24)))))))))))))) = some (r1, r2, r3, r4, r5) := h
  clear h
  replace H := Option.bind_eq_some_iff.mp H
  obtain ⟨⟨t300, t301⟩, A20, H⟩ := H
  replace H : ((peaveylaw11_rg.f 4 4).bind fun bt302 => ((peaveylaw11_rg.f a0 a0).bind fun bt307 => ((peaveylaw11_rg.f 5 8).bind fun bt309 => ((peaveylaw11_rg.f 9 10).bind fun bt314 => ((peaveylaw11_rg.f 0 3).bind fun bt316 => ((peaveylaw11_rg.f 1 9).bind fun bt318 => ((peaveylaw11_rg.f 0 9).bind fun bt320 => ((peaveylaw11_rg.f 0 2).bind fun bt322 => (some ((([(⟨t300, t301⟩ : S24), (⟨bt302.1, bt302.2⟩ : S24)] : List (S24))), (([(⟨bt307.1, bt307.2⟩ : S24), (⟨bt309.1, bt309.2⟩ : S24)] : List (S24))), bt314.1, bt314.2, (([(⟨bt316.1, bt316.2⟩ : S24), (⟨bt318.1, bt318.2⟩ : S24), (⟨bt320.1, bt320.2⟩ : S24), (⟨bt322.1, bt322.2⟩ : S24)] : List (S24))))))))))))) = some (r1, r2, r3, r4, r5) := H
  have A2 := Aside0.mk A20
  clear A20
  replace H := Option.bind_eq_some_iff.mp H
  obtain ⟨⟨t302, t303⟩, A30, H⟩ := H
  replace H : ((peaveylaw11_rg.f a0 a0).bind fun bt307 => ((peaveylaw11_rg.f 5 8).bind fun bt309 => ((peaveylaw11_rg.f 9 10).bind fun bt314 => ((peaveylaw11_rg.f 0 3).bind fun bt316 => ((peaveylaw11_rg.f 1 9).bind fun bt318 => ((peaveylaw11_rg.f 0 9).bind fun bt320 => ((peaveylaw11_rg.f 0 2).bind fun bt322 => (some ((([(⟨t300, t301⟩ : S24), (⟨t302, t303⟩ : S24)] : List (S24))), (([(⟨bt307.1, bt307.2⟩ : S24), (⟨bt309.1, bt309.2⟩ : S24)] : List (S24))), bt314.1, bt314.2, (([(⟨bt316.1, bt316.2⟩ : S24), (⟨bt318.1, bt318.2⟩ : S24), (⟨bt320.1, bt320.2⟩ : S24), (⟨bt322.1, bt322.2⟩ : S24)] : List (S24)))))))))))) = some (r1, r2, r3, r4, r5) := H
  have A3 := Aside0.mk A30
  clear A30
  obtain ⟨y304, hy304⟩ : ∃ y_ : List (S24), y_ = (([(⟨t300, t301⟩ : S24), (⟨t302, t303⟩ : S24)] : List (S24))) := ⟨_, rfl⟩
  replace H : ((peaveylaw11_rg.f a0 a0).bind fun bt307 => ((peaveylaw11_rg.f 5 8).bind fun bt309 => ((peaveylaw11_rg.f 9 10).bind fun bt314 => ((peaveylaw11_rg.f 0 3).bind fun bt316 => ((peaveylaw11_rg.f 1 9).bind fun bt318 => ((peaveylaw11_rg.f 0 9).bind fun bt320 => ((peaveylaw11_rg.f 0 2).bind fun bt322 => (some (y304, (([(⟨bt307.1, bt307.2⟩ : S24), (⟨bt309.1, bt309.2⟩ : S24)] : List (S24))), bt314.1, bt314.2, (([(⟨bt316.1, bt316.2⟩ : S24), (⟨bt318.1, bt318.2⟩ : S24), (⟨bt320.1, bt320.2⟩ : S24), (⟨bt322.1, bt322.2⟩ : S24)] : List (S24)))))))))))) = some (r1, r2, r3, r4, r5) := by first | (rw [hy304]; with_reducible exact H) | (have H2_ := (Option.bind_some _ _).symm.trans H; rw [hy304]; with_reducible exact H2_) | (have H2_ := (Option.bind_some _ _).symm.trans H; with_reducible exact H2_) | with_reducible exact H | (rw [hy304]; exact H) | exact H
  have Ny304 := Aside0.mk hy304
  clear hy304
  replace H := Option.bind_eq_some_iff.mp H
  obtain ⟨⟨t307, t308⟩, A40, H⟩ := H
  replace H : ((peaveylaw11_rg.f 5 8).bind fun bt309 => ((peaveylaw11_rg.f 9 10).bind fun bt314 => ((peaveylaw11_rg.f 0 3).bind fun bt316 => ((peaveylaw11_rg.f 1 9).bind fun bt318 => ((peaveylaw11_rg.f 0 9).bind fun bt320 => ((peaveylaw11_rg.f 0 2).bind fun bt322 => (some (y304, (([(⟨t307, t308⟩ : S24), (⟨bt309.1, bt309.2⟩ : S24)] : List (S24))), bt314.1, bt314.2, (([(⟨bt316.1, bt316.2⟩ : S24), (⟨bt318.1, bt318.2⟩ : S24), (⟨bt320.1, bt320.2⟩ : S24), (⟨bt322.1, bt322.2⟩ : S24)] : List (S24))))))))))) = some (r1, r2, r3, r4, r5) := H
  have A4 := Aside0.mk A40
  clear A40
  replace H := Option.bind_eq_some_iff.mp H
  obtain ⟨⟨t309, t310⟩, A50, H⟩ := H
  replace H : ((peaveylaw11_rg.f 9 10).bind fun bt314 => ((peaveylaw11_rg.f 0 3).bind fun bt316 => ((peaveylaw11_rg.f 1 9).bind fun bt318 => ((peaveylaw11_rg.f 0 9).bind fun bt320 => ((peaveylaw11_rg.f 0 2).bind fun bt322 => (some (y304, (([(⟨t307, t308⟩ : S24), (⟨t309, t310⟩ : S24)] : List (S24))), bt314.1, bt314.2, (([(⟨bt316.1, bt316.2⟩ : S24), (⟨bt318.1, bt318.2⟩ : S24), (⟨bt320.1, bt320.2⟩ : S24), (⟨bt322.1, bt322.2⟩ : S24)] : List (S24)))))))))) = some (r1, r2, r3, r4, r5) := H
  have A5 := Aside0.mk A50
  clear A50
  obtain ⟨y311, hy311⟩ : ∃ y_ : List (S24), y_ = (([(⟨t307, t308⟩ : S24), (⟨t309, t310⟩ : S24)] : List (S24))) := ⟨_, rfl⟩
  replace H : ((peaveylaw11_rg.f 9 10).bind fun bt314 => ((peaveylaw11_rg.f 0 3).bind fun bt316 => ((peaveylaw11_rg.f 1 9).bind fun bt318 => ((peaveylaw11_rg.f 0 9).bind fun bt320 => ((peaveylaw11_rg.f 0 2).bind fun bt322 => (some (y304, y311, bt314.1, bt314.2, (([(⟨bt316.1, bt316.2⟩ : S24), (⟨bt318.1, bt318.2⟩ : S24), (⟨bt320.1, bt320.2⟩ : S24), (⟨bt322.1, bt322.2⟩ : S24)] : List (S24)))))))))) = some (r1, r2, r3, r4, r5) := by first | (rw [hy311]; with_reducible exact H) | (have H2_ := (Option.bind_some _ _).symm.trans H; rw [hy311]; with_reducible exact H2_) | (have H2_ := (Option.bind_some _ _).symm.trans H; with_reducible exact H2_) | with_reducible exact H | (rw [hy311]; exact H) | exact H
  have Ny311 := Aside0.mk hy311
  clear hy311
  replace H := Option.bind_eq_some_iff.mp H
  obtain ⟨⟨t314, t315⟩, A60, H⟩ := H
  replace H : ((peaveylaw11_rg.f 0 3).bind fun bt316 => ((peaveylaw11_rg.f 1 9).bind fun bt318 => ((peaveylaw11_rg.f 0 9).bind fun bt320 => ((peaveylaw11_rg.f 0 2).bind fun bt322 => (some (y304, y311, t314, t315, (([(⟨bt316.1, bt316.2⟩ : S24), (⟨bt318.1, bt318.2⟩ : S24), (⟨bt320.1, bt320.2⟩ : S24), (⟨bt322.1, bt322.2⟩ : S24)] : List (S24))))))))) = some (r1, r2, r3, r4, r5) := H
  have A6 := Aside0.mk A60
  clear A60
  replace H := Option.bind_eq_some_iff.mp H
  obtain ⟨⟨t316, t317⟩, A70, H⟩ := H
  replace H : ((peaveylaw11_rg.f 1 9).bind fun bt318 => ((peaveylaw11_rg.f 0 9).bind fun bt320 => ((peaveylaw11_rg.f 0 2).bind fun bt322 => (some (y304, y311, t314, t315, (([(⟨t316, t317⟩ : S24), (⟨bt318.1, bt318.2⟩ : S24), (⟨bt320.1, bt320.2⟩ : S24), (⟨bt322.1, bt322.2⟩ : S24)] : List (S24)))))))) = some (r1, r2, r3, r4, r5) := H
  have A7 := Aside0.mk A70
  clear A70
  replace H := Option.bind_eq_some_iff.mp H
  obtain ⟨⟨t318, t319⟩, A80, H⟩ := H
  replace H : ((peaveylaw11_rg.f 0 9).bind fun bt320 => ((peaveylaw11_rg.f 0 2).bind fun bt322 => (some (y304, y311, t314, t315, (([(⟨t316, t317⟩ : S24), (⟨t318, t319⟩ : S24), (⟨bt320.1, bt320.2⟩ : S24), (⟨bt322.1, bt322.2⟩ : S24)] : List (S24))))))) = some (r1, r2, r3, r4, r5) := H
  have A8 := Aside0.mk A80
  clear A80
  replace H := Option.bind_eq_some_iff.mp H
  obtain ⟨⟨t320, t321⟩, A90, H⟩ := H
  replace H : ((peaveylaw11_rg.f 0 2).bind fun bt322 => (some (y304, y311, t314, t315, (([(⟨t316, t317⟩ : S24), (⟨t318, t319⟩ : S24), (⟨t320, t321⟩ : S24), (⟨bt322.1, bt322.2⟩ : S24)] : List (S24)))))) = some (r1, r2, r3, r4, r5) := H
  have A9 := Aside0.mk A90
  clear A90
  replace H := Option.bind_eq_some_iff.mp H
  obtain ⟨⟨t322, t323⟩, A100, H⟩ := H
  replace H : (some (y304, y311, t314, t315, (([(⟨t316, t317⟩ : S24), (⟨t318, t319⟩ : S24), (⟨t320, t321⟩ : S24), (⟨t322, t323⟩ : S24)] : List (S24))))) = some (r1, r2, r3, r4, r5) := H
  have A10 := Aside0.mk A100
  clear A100
  obtain ⟨y324, hy324⟩ : ∃ y_ : List (S24), y_ = (([(⟨t316, t317⟩ : S24), (⟨t318, t319⟩ : S24), (⟨t320, t321⟩ : S24), (⟨t322, t323⟩ : S24)] : List (S24))) := ⟨_, rfl⟩
  replace H : (some (y304, y311, t314, t315, y324)) = some (r1, r2, r3, r4, r5) := by first | (rw [hy324]; with_reducible exact H) | (have H2_ := (Option.bind_some _ _).symm.trans H; rw [hy324]; with_reducible exact H2_) | (have H2_ := (Option.bind_some _ _).symm.trans H; with_reducible exact H2_) | with_reducible exact H | (rw [hy324]; exact H) | exact H
  have Ny324 := Aside0.mk hy324
  clear hy324
  simp only [Option.some.injEq, Prod.mk.injEq] at H
  obtain ⟨rfl, rfl, rfl, rfl, rfl⟩ := H
  go_enter Tryd.func49, Tryd.ntmps49
  go_wp2_with (first | ((with_reducible refine gate_dst (N := 2) rfl ?_); refine box_event ?hg (N := 2) ?hd (cs := #[.slice none 0 0, .slice none 0 0, .int .i64 0, .int .i64 0, .slice none 0 0]) (t := 26) ?hr ?_; (case hd => rfl); (case hg => rfl); (case hr => first | (go_simp; done) | (go_simp; rfl)); intro gb299 hg w11 hbox hb; have n0_ := Aside0.mk (below_step (by repeat (first | (with_reducible first | exact HB.out | apply below_alloc | apply pw_below_drewN | apply below_drew1) | exact HB.out)) hb); have n1_ := Aside0.mk (hbox); have n2_ := Aside0.mk ((by rw [hg]; exact (below_size (by repeat (first | (with_reducible first | exact HB.out | apply below_alloc | apply pw_below_drewN | apply below_drew1) | exact HB.out))) : w.heap.size ≤ gb299)); have n3_ := Aside0.mk ((by rw [hg]; exact (below_size (by repeat (first | (with_reducible first | exact HB.out | apply below_alloc | apply pw_below_drewN | apply below_drew1) | exact HB.out))) : w.heap.size ≤ gb299)); clear HB; have HB := n0_; have BK299 := n1_; have GW299 := n2_; have GE299 := n3_; clear n0_ n1_ n2_ n3_; clear hb hbox hg) | ((with_reducible refine gate_callee (f := 40) rfl ?_); refine goesL_ (some 3) rfl rfl Tryd.func40 (by kernel_rfl) rfl #[.int .i64 5, .int .i64 6] rfl (by (try simp only [List.map_toArray, List.map_cons, List.map_nil]); first | done | rfl | (simp only [List.length_drop, List.length_take]; rfl)) ?_; (with_reducible refine (peaveylaw11_rg.calls 5 6 t300 t301 _ A2.out).mono ?_); rintro e w12 ⟨rfl, hb⟩; refine ⟨_, rfl, ?_⟩; have n0_ := Aside0.mk (blk_below (g := gb299) (o := .cells #[.slice none 0 0, .slice none 0 0, .int .i64 0, .int .i64 0, .slice none 0 0] 26 (0, 0)) (by (with_reducible repeat (first | refine blk_drewN ?_ _ | refine blk_drew ?_ | refine blk_alloc ?_ _)); exact BK299.out) hb); have n1_ := Aside0.mk (below_step (by repeat (first | (with_reducible first | exact HB.out | apply below_alloc | apply pw_below_drewN | apply below_drew1 | refine below_set ?_ GE299.out) | exact HB.out)) hb); clear BK299; clear HB; have BK299 := n0_; have HB := n1_; clear n0_ n1_; (try clear hb); (try clear hb2); (try clear hk); (try clear hi)) | ((with_reducible refine gate_callee (f := 40) rfl ?_); refine goesL_ (some 4) rfl rfl Tryd.func40 (by kernel_rfl) rfl #[.int .i64 4, .int .i64 4] rfl (by (try simp only [List.map_toArray, List.map_cons, List.map_nil]); first | done | rfl | (simp only [List.length_drop, List.length_take]; rfl)) ?_; (with_reducible refine (peaveylaw11_rg.calls 4 4 t302 t303 _ A3.out).mono ?_); rintro e w13 ⟨rfl, hb⟩; refine ⟨_, rfl, ?_⟩; have n0_ := Aside0.mk (blk_below (g := gb299) (o := .cells #[.slice none 0 0, .slice none 0 0, .int .i64 0, .int .i64 0, .slice none 0 0] 26 (0, 0)) (by (with_reducible repeat (first | refine blk_drewN ?_ _ | refine blk_drew ?_ | refine blk_alloc ?_ _)); exact BK299.out) hb); have n1_ := Aside0.mk (below_step (by repeat (first | (with_reducible first | exact HB.out | apply below_alloc | apply pw_below_drewN | apply below_drew1 | refine below_set ?_ GE299.out) | exact HB.out)) hb); clear BK299; clear HB; have BK299 := n0_; have HB := n1_; clear n0_ n1_; (try clear hb); (try clear hb2); (try clear hk); (try clear hi)) | ((with_reducible refine gate_dst (N := 5) rfl ?_); refine Kd.R_lit k24 _ 24 ?hg (N := 5) ?hd (xs := ([(⟨t300, t301⟩ : S24), (⟨t302, t303⟩ : S24)] : List (S24))) (inner := [.int .i64 t300, .int .i64 t301, .int .i64 t302, .int .i64 t303]) (ok := fun _ => True) (okp := fun _ => True) ?hr ?hp (fun _ hk => hk) trivial (Below.refl _ _) (Nat.le_refl _) (by simp) ?_; (case hd => rfl); (case hg => rfl); (case hr => first | (go_simp; done) | (go_simp; rfl)); (case hp => exact (Reps.c2 (show Kd.M k24 _ _ _ (⟨t300, t301⟩ : S24) [.int .i64 t300, .int .i64 t301] from (k24_mkM _ _ _ (⟨t300, t301⟩ : S24) )) (Reps.c2 (show Kd.M k24 _ _ _ (⟨t302, t303⟩ : S24) [.int .i64 t302, .int .i64 t303] from (k24_mkM _ _ _ (⟨t302, t303⟩ : S24) )) (Reps.none _ _)))); intro v305 w14 ho15 hb hg_ hnew_; clear hg_ hnew_; (first | rw [← Ny304.out] at ho15 | (simp only [Int.reduceToNat] at ho15; rw [← Ny304.out] at ho15)); have n0_ := Aside0.mk (Kd.R_lower ho15 (below_size (by repeat (first | (with_reducible first | exact HB.out | apply below_alloc | apply pw_below_drewN | apply below_drew1 | refine below_set ?_ GE299.out) | exact HB.out)))); have n1_ := Aside0.mk (blk_below (g := gb299) (o := .cells #[.slice none 0 0, .slice none 0 0, .int .i64 0, .int .i64 0, .slice none 0 0] 26 (0, 0)) (by (with_reducible repeat (first | refine blk_drewN ?_ _ | refine blk_drew ?_ | refine blk_alloc ?_ _)); exact BK299.out) hb); have n2_ := Aside0.mk (below_step (by repeat (first | (with_reducible first | exact HB.out | apply below_alloc | apply pw_below_drewN | apply below_drew1 | refine below_set ?_ GE299.out) | exact HB.out)) hb); clear BK299; clear HB; have HO306 := n0_; have BK299 := n1_; have HB := n2_; clear n0_ n1_ n2_; clear hb ho15) | ((with_reducible refine gate_callee (f := 40) rfl ?_); refine goesL_ (some 8) rfl rfl Tryd.func40 (by kernel_rfl) rfl #[.int .i64 a0, .int .i64 a0] rfl (by (try simp only [List.map_toArray, List.map_cons, List.map_nil]); first | done | rfl | (simp only [List.length_drop, List.length_take]; rfl)) ?_; (with_reducible refine (peaveylaw11_rg.calls a0 a0 t307 t308 _ A4.out).mono ?_); rintro e w16 ⟨rfl, hb⟩; refine ⟨_, rfl, ?_⟩; have n0_ := Aside0.mk (Kd.R_below (by (with_reducible repeat (first | apply Kd.R_alloc | apply Kd.R_drewN | apply Kd.R_drew)); exact HO306.out) hb); have n1_ := Aside0.mk (blk_below (g := gb299) (o := .cells #[.slice none 0 0, .slice none 0 0, .int .i64 0, .int .i64 0, .slice none 0 0] 26 (0, 0)) (by (with_reducible repeat (first | refine blk_drewN ?_ _ | refine blk_drew ?_ | refine blk_alloc ?_ _)); exact BK299.out) hb); have n2_ := Aside0.mk (below_step (by repeat (first | (with_reducible first | exact HB.out | apply below_alloc | apply pw_below_drewN | apply below_drew1 | refine below_set ?_ GE299.out) | exact HB.out)) hb); clear HO306; clear BK299; clear HB; have HO306 := n0_; have BK299 := n1_; have HB := n2_; clear n0_ n1_ n2_; (try clear hb); (try clear hb2); (try clear hk); (try clear hi)) | ((with_reducible refine gate_callee (f := 40) rfl ?_); refine goesL_ (some 9) rfl rfl Tryd.func40 (by kernel_rfl) rfl #[.int .i64 5, .int .i64 8] rfl (by (try simp only [List.map_toArray, List.map_cons, List.map_nil]); first | done | rfl | (simp only [List.length_drop, List.length_take]; rfl)) ?_; (with_reducible refine (peaveylaw11_rg.calls 5 8 t309 t310 _ A5.out).mono ?_); rintro e w17 ⟨rfl, hb⟩; refine ⟨_, rfl, ?_⟩; have n0_ := Aside0.mk (Kd.R_below (by (with_reducible repeat (first | apply Kd.R_alloc | apply Kd.R_drewN | apply Kd.R_drew)); exact HO306.out) hb); have n1_ := Aside0.mk (blk_below (g := gb299) (o := .cells #[.slice none 0 0, .slice none 0 0, .int .i64 0, .int .i64 0, .slice none 0 0] 26 (0, 0)) (by (with_reducible repeat (first | refine blk_drewN ?_ _ | refine blk_drew ?_ | refine blk_alloc ?_ _)); exact BK299.out) hb); have n2_ := Aside0.mk (below_step (by repeat (first | (with_reducible first | exact HB.out | apply below_alloc | apply pw_below_drewN | apply below_drew1 | refine below_set ?_ GE299.out) | exact HB.out)) hb); clear HO306; clear BK299; clear HB; have HO306 := n0_; have BK299 := n1_; have HB := n2_; clear n0_ n1_ n2_; (try clear hb); (try clear hb2); (try clear hk); (try clear hi)) | ((with_reducible refine gate_dst (N := 10) rfl ?_); refine Kd.R_lit k24 _ 24 ?hg (N := 10) ?hd (xs := ([(⟨t307, t308⟩ : S24), (⟨t309, t310⟩ : S24)] : List (S24))) (inner := [.int .i64 t307, .int .i64 t308, .int .i64 t309, .int .i64 t310]) (ok := fun _ => True) (okp := fun _ => True) ?hr ?hp (fun _ hk => hk) trivial (Below.refl _ _) (Nat.le_refl _) (by simp) ?_; (case hd => rfl); (case hg => rfl); (case hr => first | (go_simp; done) | (go_simp; rfl)); (case hp => exact (Reps.c2 (show Kd.M k24 _ _ _ (⟨t307, t308⟩ : S24) [.int .i64 t307, .int .i64 t308] from (k24_mkM _ _ _ (⟨t307, t308⟩ : S24) )) (Reps.c2 (show Kd.M k24 _ _ _ (⟨t309, t310⟩ : S24) [.int .i64 t309, .int .i64 t310] from (k24_mkM _ _ _ (⟨t309, t310⟩ : S24) )) (Reps.none _ _)))); intro v312 w18 ho19 hb hg_ hnew_; clear hg_ hnew_; (first | rw [← Ny311.out] at ho19 | (simp only [Int.reduceToNat] at ho19; rw [← Ny311.out] at ho19)); have n0_ := Aside0.mk (Kd.R_elder' (by (with_reducible repeat (first | apply Kd.R_alloc | apply Kd.R_drewN | apply Kd.R_drew)); exact HO306.out) (Kd.R_base ho19) hb); have n1_ := Aside0.mk (Kd.R_lower (Kd.R_new' ho19 (Kd.R_lt (by (with_reducible repeat (first | apply Kd.R_alloc | apply Kd.R_drewN | apply Kd.R_drew)); exact HO306.out))) (below_size (by repeat (first | (with_reducible first | exact HB.out | apply below_alloc | apply pw_below_drewN | apply below_drew1 | refine below_set ?_ GE299.out) | exact HB.out)))); have n2_ := Aside0.mk (blk_below (g := gb299) (o := .cells #[.slice none 0 0, .slice none 0 0, .int .i64 0, .int .i64 0, .slice none 0 0] 26 (0, 0)) (by (with_reducible repeat (first | refine blk_drewN ?_ _ | refine blk_drew ?_ | refine blk_alloc ?_ _)); exact BK299.out) hb); have n3_ := Aside0.mk (below_step (by repeat (first | (with_reducible first | exact HB.out | apply below_alloc | apply pw_below_drewN | apply below_drew1 | refine below_set ?_ GE299.out) | exact HB.out)) hb); clear HO306; clear BK299; clear HB; have HO306 := n0_; have HO313 := n1_; have BK299 := n2_; have HB := n3_; clear n0_ n1_ n2_ n3_; clear hb ho19) | ((with_reducible refine gate_callee (f := 40) rfl ?_); refine goesL_ (some 11) rfl rfl Tryd.func40 (by kernel_rfl) rfl #[.int .i64 9, .int .i64 10] rfl (by (try simp only [List.map_toArray, List.map_cons, List.map_nil]); first | done | rfl | (simp only [List.length_drop, List.length_take]; rfl)) ?_; (with_reducible refine (peaveylaw11_rg.calls 9 10 t314 t315 _ A6.out).mono ?_); rintro e w20 ⟨rfl, hb⟩; refine ⟨_, rfl, ?_⟩; have n0_ := Aside0.mk (Kd.R_below (by (with_reducible repeat (first | apply Kd.R_alloc | apply Kd.R_drewN | apply Kd.R_drew)); exact HO306.out) hb); have n1_ := Aside0.mk (Kd.R_below (by (with_reducible repeat (first | apply Kd.R_alloc | apply Kd.R_drewN | apply Kd.R_drew)); exact HO313.out) hb); have n2_ := Aside0.mk (blk_below (g := gb299) (o := .cells #[.slice none 0 0, .slice none 0 0, .int .i64 0, .int .i64 0, .slice none 0 0] 26 (0, 0)) (by (with_reducible repeat (first | refine blk_drewN ?_ _ | refine blk_drew ?_ | refine blk_alloc ?_ _)); exact BK299.out) hb); have n3_ := Aside0.mk (below_step (by repeat (first | (with_reducible first | exact HB.out | apply below_alloc | apply pw_below_drewN | apply below_drew1 | refine below_set ?_ GE299.out) | exact HB.out)) hb); clear HO306; clear HO313; clear BK299; clear HB; have HO306 := n0_; have HO313 := n1_; have BK299 := n2_; have HB := n3_; clear n0_ n1_ n2_ n3_; (try clear hb); (try clear hb2); (try clear hk); (try clear hi)) | ((with_reducible refine gate_callee (f := 40) rfl ?_); refine goesL_ (some 12) rfl rfl Tryd.func40 (by kernel_rfl) rfl #[.int .i64 0, .int .i64 3] rfl (by (try simp only [List.map_toArray, List.map_cons, List.map_nil]); first | done | rfl | (simp only [List.length_drop, List.length_take]; rfl)) ?_; (with_reducible refine (peaveylaw11_rg.calls 0 3 t316 t317 _ A7.out).mono ?_); rintro e w21 ⟨rfl, hb⟩; refine ⟨_, rfl, ?_⟩; have n0_ := Aside0.mk (Kd.R_below (by (with_reducible repeat (first | apply Kd.R_alloc | apply Kd.R_drewN | apply Kd.R_drew)); exact HO306.out) hb); have n1_ := Aside0.mk (Kd.R_below (by (with_reducible repeat (first | apply Kd.R_alloc | apply Kd.R_drewN | apply Kd.R_drew)); exact HO313.out) hb); have n2_ := Aside0.mk (blk_below (g := gb299) (o := .cells #[.slice none 0 0, .slice none 0 0, .int .i64 0, .int .i64 0, .slice none 0 0] 26 (0, 0)) (by (with_reducible repeat (first | refine blk_drewN ?_ _ | refine blk_drew ?_ | refine blk_alloc ?_ _)); exact BK299.out) hb); have n3_ := Aside0.mk (below_step (by repeat (first | (with_reducible first | exact HB.out | apply below_alloc | apply pw_below_drewN | apply below_drew1 | refine below_set ?_ GE299.out) | exact HB.out)) hb); clear HO306; clear HO313; clear BK299; clear HB; have HO306 := n0_; have HO313 := n1_; have BK299 := n2_; have HB := n3_; clear n0_ n1_ n2_ n3_; (try clear hb); (try clear hb2); (try clear hk); (try clear hi)) | ((with_reducible refine gate_callee (f := 40) rfl ?_); refine goesL_ (some 13) rfl rfl Tryd.func40 (by kernel_rfl) rfl #[.int .i64 1, .int .i64 9] rfl (by (try simp only [List.map_toArray, List.map_cons, List.map_nil]); first | done | rfl | (simp only [List.length_drop, List.length_take]; rfl)) ?_; (with_reducible refine (peaveylaw11_rg.calls 1 9 t318 t319 _ A8.out).mono ?_); rintro e w22 ⟨rfl, hb⟩; refine ⟨_, rfl, ?_⟩; have n0_ := Aside0.mk (Kd.R_below (by (with_reducible repeat (first | apply Kd.R_alloc | apply Kd.R_drewN | apply Kd.R_drew)); exact HO306.out) hb); have n1_ := Aside0.mk (Kd.R_below (by (with_reducible repeat (first | apply Kd.R_alloc | apply Kd.R_drewN | apply Kd.R_drew)); exact HO313.out) hb); have n2_ := Aside0.mk (blk_below (g := gb299) (o := .cells #[.slice none 0 0, .slice none 0 0, .int .i64 0, .int .i64 0, .slice none 0 0] 26 (0, 0)) (by (with_reducible repeat (first | refine blk_drewN ?_ _ | refine blk_drew ?_ | refine blk_alloc ?_ _)); exact BK299.out) hb); have n3_ := Aside0.mk (below_step (by repeat (first | (with_reducible first | exact HB.out | apply below_alloc | apply pw_below_drewN | apply below_drew1 | refine below_set ?_ GE299.out) | exact HB.out)) hb); clear HO306; clear HO313; clear BK299; clear HB; have HO306 := n0_; have HO313 := n1_; have BK299 := n2_; have HB := n3_; clear n0_ n1_ n2_ n3_; (try clear hb); (try clear hb2); (try clear hk); (try clear hi)) | ((with_reducible refine gate_callee (f := 40) rfl ?_); refine goesL_ (some 14) rfl rfl Tryd.func40 (by kernel_rfl) rfl #[.int .i64 0, .int .i64 9] rfl (by (try simp only [List.map_toArray, List.map_cons, List.map_nil]); first | done | rfl | (simp only [List.length_drop, List.length_take]; rfl)) ?_; (with_reducible refine (peaveylaw11_rg.calls 0 9 t320 t321 _ A9.out).mono ?_); rintro e w23 ⟨rfl, hb⟩; refine ⟨_, rfl, ?_⟩; have n0_ := Aside0.mk (Kd.R_below (by (with_reducible repeat (first | apply Kd.R_alloc | apply Kd.R_drewN | apply Kd.R_drew)); exact HO306.out) hb); have n1_ := Aside0.mk (Kd.R_below (by (with_reducible repeat (first | apply Kd.R_alloc | apply Kd.R_drewN | apply Kd.R_drew)); exact HO313.out) hb); have n2_ := Aside0.mk (blk_below (g := gb299) (o := .cells #[.slice none 0 0, .slice none 0 0, .int .i64 0, .int .i64 0, .slice none 0 0] 26 (0, 0)) (by (with_reducible repeat (first | refine blk_drewN ?_ _ | refine blk_drew ?_ | refine blk_alloc ?_ _)); exact BK299.out) hb); have n3_ := Aside0.mk (below_step (by repeat (first | (with_reducible first | exact HB.out | apply below_alloc | apply pw_below_drewN | apply below_drew1 | refine below_set ?_ GE299.out) | exact HB.out)) hb); clear HO306; clear HO313; clear BK299; clear HB; have HO306 := n0_; have HO313 := n1_; have BK299 := n2_; have HB := n3_; clear n0_ n1_ n2_ n3_; (try clear hb); (try clear hb2); (try clear hk); (try clear hi)) | ((with_reducible refine gate_callee (f := 40) rfl ?_); refine goesL_ (some 15) rfl rfl Tryd.func40 (by kernel_rfl) rfl #[.int .i64 0, .int .i64 2] rfl (by (try simp only [List.map_toArray, List.map_cons, List.map_nil]); first | done | rfl | (simp only [List.length_drop, List.length_take]; rfl)) ?_; (with_reducible refine (peaveylaw11_rg.calls 0 2 t322 t323 _ A10.out).mono ?_); rintro e w24 ⟨rfl, hb⟩; refine ⟨_, rfl, ?_⟩; have n0_ := Aside0.mk (Kd.R_below (by (with_reducible repeat (first | apply Kd.R_alloc | apply Kd.R_drewN | apply Kd.R_drew)); exact HO306.out) hb); have n1_ := Aside0.mk (Kd.R_below (by (with_reducible repeat (first | apply Kd.R_alloc | apply Kd.R_drewN | apply Kd.R_drew)); exact HO313.out) hb); have n2_ := Aside0.mk (blk_below (g := gb299) (o := .cells #[.slice none 0 0, .slice none 0 0, .int .i64 0, .int .i64 0, .slice none 0 0] 26 (0, 0)) (by (with_reducible repeat (first | refine blk_drewN ?_ _ | refine blk_drew ?_ | refine blk_alloc ?_ _)); exact BK299.out) hb); have n3_ := Aside0.mk (below_step (by repeat (first | (with_reducible first | exact HB.out | apply below_alloc | apply pw_below_drewN | apply below_drew1 | refine below_set ?_ GE299.out) | exact HB.out)) hb); clear HO306; clear HO313; clear BK299; clear HB; have HO306 := n0_; have HO313 := n1_; have BK299 := n2_; have HB := n3_; clear n0_ n1_ n2_ n3_; (try clear hb); (try clear hb2); (try clear hk); (try clear hi)) | ((with_reducible refine gate_dst (N := 16) rfl ?_); refine Kd.R_lit k24 _ 24 ?hg (N := 16) ?hd (xs := ([(⟨t316, t317⟩ : S24), (⟨t318, t319⟩ : S24), (⟨t320, t321⟩ : S24), (⟨t322, t323⟩ : S24)] : List (S24))) (inner := [.int .i64 t316, .int .i64 t317, .int .i64 t318, .int .i64 t319, .int .i64 t320, .int .i64 t321, .int .i64 t322, .int .i64 t323]) (ok := fun _ => True) (okp := fun _ => True) ?hr ?hp (fun _ hk => hk) trivial (Below.refl _ _) (Nat.le_refl _) (by simp) ?_; (case hd => rfl); (case hg => rfl); (case hr => first | (go_simp; done) | (go_simp; rfl)); (case hp => exact (Reps.c2 (show Kd.M k24 _ _ _ (⟨t316, t317⟩ : S24) [.int .i64 t316, .int .i64 t317] from (k24_mkM _ _ _ (⟨t316, t317⟩ : S24) )) (Reps.c2 (show Kd.M k24 _ _ _ (⟨t318, t319⟩ : S24) [.int .i64 t318, .int .i64 t319] from (k24_mkM _ _ _ (⟨t318, t319⟩ : S24) )) (Reps.c2 (show Kd.M k24 _ _ _ (⟨t320, t321⟩ : S24) [.int .i64 t320, .int .i64 t321] from (k24_mkM _ _ _ (⟨t320, t321⟩ : S24) )) (Reps.c2 (show Kd.M k24 _ _ _ (⟨t322, t323⟩ : S24) [.int .i64 t322, .int .i64 t323] from (k24_mkM _ _ _ (⟨t322, t323⟩ : S24) )) (Reps.none _ _)))))); intro v325 w25 ho26 hb hg_ hnew_; clear hg_ hnew_; (first | rw [← Ny324.out] at ho26 | (simp only [Int.reduceToNat] at ho26; rw [← Ny324.out] at ho26)); have n0_ := Aside0.mk (Kd.R_elder' (by (with_reducible repeat (first | apply Kd.R_alloc | apply Kd.R_drewN | apply Kd.R_drew)); exact HO306.out) (Kd.R_base ho26) hb); have n1_ := Aside0.mk (Kd.R_elder' (by (with_reducible repeat (first | apply Kd.R_alloc | apply Kd.R_drewN | apply Kd.R_drew)); exact HO313.out) (Kd.R_base ho26) hb); have n2_ := Aside0.mk (Kd.R_lower (Kd.R_new' (Kd.R_new' ho26 (Kd.R_lt (by (with_reducible repeat (first | apply Kd.R_alloc | apply Kd.R_drewN | apply Kd.R_drew)); exact HO306.out))) (Kd.R_lt (by (with_reducible repeat (first | apply Kd.R_alloc | apply Kd.R_drewN | apply Kd.R_drew)); exact HO313.out))) (below_size (by repeat (first | (with_reducible first | exact HB.out | apply below_alloc | apply pw_below_drewN | apply below_drew1 | refine below_set ?_ GE299.out) | exact HB.out)))); have n3_ := Aside0.mk (blk_below (g := gb299) (o := .cells #[.slice none 0 0, .slice none 0 0, .int .i64 0, .int .i64 0, .slice none 0 0] 26 (0, 0)) (by (with_reducible repeat (first | refine blk_drewN ?_ _ | refine blk_drew ?_ | refine blk_alloc ?_ _)); exact BK299.out) hb); have n4_ := Aside0.mk (below_step (by repeat (first | (with_reducible first | exact HB.out | apply below_alloc | apply pw_below_drewN | apply below_drew1 | refine below_set ?_ GE299.out) | exact HB.out)) hb); clear HO306; clear HO313; clear BK299; clear HB; have HO306 := n0_; have HO313 := n1_; have HO326 := n2_; have BK299 := n3_; have HB := n4_; clear n0_ n1_ n2_ n3_ n4_; clear hb ho26; obtain ⟨Ao27, co27, eo27⟩ := Kd.R_slice HO326.out; subst eo27; obtain ⟨Ao28, co28, eo28⟩ := Kd.R_slice HO313.out; subst eo28; obtain ⟨Ao29, co29, eo29⟩ := Kd.R_slice HO306.out; subst eo29; have hcz30_0 : w25.cell? ⟨gb299, 0, none⟩ = some (.slice none 0 0) := (blk_cell BK299.out 0).trans rfl; have hcz30_1 : w25.cell? ⟨gb299, 1, none⟩ = some (.slice none 0 0) := (blk_cell BK299.out 1).trans rfl; have hcz30_2 : w25.cell? ⟨gb299, 2, none⟩ = some (.int .i64 0) := (blk_cell BK299.out 2).trans rfl; have hcz30_3 : w25.cell? ⟨gb299, 3, none⟩ = some (.int .i64 0) := (blk_cell BK299.out 3).trans rfl; have hcz30_4 : w25.cell? ⟨gb299, 4, none⟩ = some (.slice none 0 0) := (blk_cell BK299.out 4).trans rfl; have hfz30_0 := blk_frozen BK299.out 0; have hfz30_1 := blk_frozen BK299.out 1; have hfz30_2 := blk_frozen BK299.out 2; have hfz30_3 := blk_frozen BK299.out 3; have hfz30_4 := blk_frozen BK299.out 4))
  refine bodyPost_ret (results_cell_row rfl _ _ gb299 26 #[.slice Ao29 y304.length co29, .slice Ao28 y311.length co28, .int .i64 t314, .int .i64 t315, .slice Ao27 y324.length co27] (0, 0) _ rfl (by (with_reducible repeat (first | refine blk_drewN ?_ _ | refine blk_drew ?_ | refine blk_alloc ?_ _)); refine blk_put (cs := #[.slice Ao29 y304.length co29, .slice Ao28 y311.length co28, .int .i64 t314, .int .i64 t315, .slice none 0 0]) ?_ 4 _ rfl; (with_reducible repeat (first | refine blk_drewN ?_ _ | refine blk_drew ?_ | refine blk_alloc ?_ _)); refine blk_put (cs := #[.slice Ao29 y304.length co29, .slice Ao28 y311.length co28, .int .i64 t314, .int .i64 0, .slice none 0 0]) ?_ 3 _ rfl; (with_reducible repeat (first | refine blk_drewN ?_ _ | refine blk_drew ?_ | refine blk_alloc ?_ _)); refine blk_put (cs := #[.slice Ao29 y304.length co29, .slice Ao28 y311.length co28, .int .i64 0, .int .i64 0, .slice none 0 0]) ?_ 2 _ rfl; (with_reducible repeat (first | refine blk_drewN ?_ _ | refine blk_drew ?_ | refine blk_alloc ?_ _)); refine blk_put (cs := #[.slice Ao29 y304.length co29, .slice none 0 0, .int .i64 0, .int .i64 0, .slice none 0 0]) ?_ 1 _ rfl; (with_reducible repeat (first | refine blk_drewN ?_ _ | refine blk_drew ?_ | refine blk_alloc ?_ _)); refine blk_put (cs := #[.slice none 0 0, .slice none 0 0, .int .i64 0, .int .i64 0, .slice none 0 0]) ?_ 0 _ rfl; (with_reducible repeat (first | refine blk_drewN ?_ _ | refine blk_drew ?_ | refine blk_alloc ?_ _)); exact BK299.out) Tryd.underlying26 rfl (by kernel_rfl)) rfl ?_
  exact ⟨_, _, _, by first | rfl | (simp [errW_none, errW_some] <;> rfl) | (simp [*, errW_none, errW_some] <;> rfl), by (with_reducible repeat (first | apply Kd.R_alloc | apply Kd.R_drewN | apply Kd.R_drew)); exact Kd.R_mono (Kd.R_far (p := ⟨gb299, 4, none⟩) (Kd.R_far (p := ⟨gb299, 3, none⟩) (Kd.R_far (p := ⟨gb299, 2, none⟩) (Kd.R_far (p := ⟨gb299, 1, none⟩) (Kd.R_far (p := ⟨gb299, 0, none⟩) (Kd.R_types HO306.out BK299.out (by decide)) (fun _ hk => hk.2) (.slice Ao29 y304.length co29)) (fun _ hk => hk.2) (.slice Ao28 y311.length co28)) (fun _ hk => hk.2) (.int .i64 t314)) (fun _ hk => hk.2) (.int .i64 t315)) (fun _ hk => hk.2) (.slice Ao27 y324.length co27)) (fun _ hk => ⟨hk.1.1.2, hk.1.2⟩), by (with_reducible repeat (first | apply Kd.R_alloc | apply Kd.R_drewN | apply Kd.R_drew)); exact Kd.R_mono (Kd.R_far (p := ⟨gb299, 4, none⟩) (Kd.R_far (p := ⟨gb299, 3, none⟩) (Kd.R_far (p := ⟨gb299, 2, none⟩) (Kd.R_far (p := ⟨gb299, 1, none⟩) (Kd.R_far (p := ⟨gb299, 0, none⟩) (Kd.R_types HO313.out BK299.out (by decide)) (fun _ hk => hk.2) (.slice Ao29 y304.length co29)) (fun _ hk => hk.2) (.slice Ao28 y311.length co28)) (fun _ hk => hk.2) (.int .i64 t314)) (fun _ hk => hk.2) (.int .i64 t315)) (fun _ hk => hk.2) (.slice Ao27 y324.length co27)) (fun _ hk => ⟨hk.1.1.2, hk.1.2⟩), by (with_reducible repeat (first | apply Kd.R_alloc | apply Kd.R_drewN | apply Kd.R_drew)); exact Kd.R_mono (Kd.R_far (p := ⟨gb299, 4, none⟩) (Kd.R_far (p := ⟨gb299, 3, none⟩) (Kd.R_far (p := ⟨gb299, 2, none⟩) (Kd.R_far (p := ⟨gb299, 1, none⟩) (Kd.R_far (p := ⟨gb299, 0, none⟩) (Kd.R_types HO326.out BK299.out (by decide)) (fun _ hk => hk.2) (.slice Ao29 y304.length co29)) (fun _ hk => hk.2) (.slice Ao28 y311.length co28)) (fun _ hk => hk.2) (.int .i64 t314)) (fun _ hk => hk.2) (.int .i64 t315)) (fun _ hk => hk.2) (.slice Ao27 y324.length co27)) (fun _ hk => ⟨hk.1.1.2, hk.1.2⟩), by repeat (first | (with_reducible first | exact HB.out | apply below_alloc | apply pw_below_drewN | apply below_drew1 | refine below_set ?_ GE299.out) | exact HB.out)⟩
end Go.Proofs.YtcbhnhoicecnnaaDoor.PrK
namespace Go.Proofs.YtcbhnhoicecnnaaDoor.Hand
set_option linter.unusedVariables false
set_option linter.unusedSimpArgs false
open Go.RowKit Go.Shelf Go.Maps Go.Proofs.YtcbhnhoicecnnaaDoorW.PrintWords Go.Proofs.YtcbhnhoicecnnaaDoorW.PrintLast Go.Proofs.YtcbhnhoicecnnaaDoorW.PrintMore Go.Proofs.YtcbhnhoicecnnaaDoor.PrK
def Sx (a : Int) : Sh := ⟨[(5, 6), (4, 4)], [(a, a), (5, 8)], (9, 10), [(0, 3), (1, 9), (0, 9), (0, 2)]⟩
theorem rgok {a b : Int} (h : 0 ≤ a ∧ a ≤ b ∧ b ≤ 1000) : RgOk (a, b) := h
theorem sx_ok {a : Int} (h : 0 ≤ a ∧ a ≤ 1000) : (Sx a).Ok := by
  refine ⟨(by decide : 1 ≤ 2), (by decide : 2 ≤ 5), (by decide : 1 ≤ 2), (by decide : 2 ≤ 5), rfl, ?_, ?_, rgok (by decide), ?_⟩
  · intro i hi
    match i, hi with
    | 0, _ => exact rgok (a := 5) (b := 6) (by decide)
    | 1, _ => exact rgok (a := 4) (b := 4) (by decide)
  · intro i hi
    match i, hi with
    | 0, _ => exact rgok ⟨h.1, Int.le_refl _, h.2⟩
    | 1, _ => exact rgok (a := 5) (b := 8) (by decide)
  · intro i hi
    match i, hi with
    | 0, _ => exact rgok (a := 0) (b := 3) (by decide)
    | 1, _ => exact rgok (a := 1) (b := 9) (by decide)
    | 2, _ => exact rgok (a := 0) (b := 9) (by decide)
    | 3, _ => exact rgok (a := 0) (b := 2) (by decide)
theorem in4 {a : Int} {t : List Int} (hl : t.length = 4) (h : (0 ≤ tat t 0 ∧ tat t 0 ≤ 3) ∧ (1 ≤ tat t 1 ∧ tat t 1 ≤ 9) ∧ (0 ≤ tat t 2 ∧ tat t 2 ≤ 9) ∧ (0 ≤ tat t 3 ∧ tat t 3 ≤ 2)) : InL (Sx a) t := by
  refine ⟨hl, fun i hi => ?_⟩
  match i, hi with
  | 0, _ => exact h.1
  | 1, _ => exact h.2.1
  | 2, _ => exact h.2.2.1
  | 3, _ => exact h.2.2.2
theorem wrong4 (a : Int) (T : Nat → Int) : wrongS (Sx a) T = bes (T 0 + T 1 + (T 2 + T 3)) (9, 10) + (bes (T 0 + T 1) (5, 6) + bes (T 2 + T 3) (4, 4)) + (bes (T 0 + T 2) (a, a) + bes (T 1 + T 3) (5, 8)) := by
  have e1 : ∀ f : Nat → Int, sumR 2 f = f 0 + f 1 := fun f => by rw [sumR_succ, sumR_succ, sumR_zero]; omega
  show bes (sumR 2 fun o => sumR 2 fun p => T (o * 2 + p)) (9, 10) + sumR 2 (fun o => bes (sumR 2 fun p => T (o * 2 + p)) (rgAt [(5, 6), (4, 4)] o)) + sumR 2 (fun p => bes (sumR 2 fun o => T (o * 2 + p)) (rgAt [(a, a), (5, 8)] p)) = _
  simp only [e1]
  rfl
theorem held4 {a : Int} {t : List Int} (hl : t.length = 4) (h : (0 ≤ tat t 0 ∧ tat t 0 ≤ 3) ∧ (1 ≤ tat t 1 ∧ tat t 1 ≤ 9) ∧ (0 ≤ tat t 2 ∧ tat t 2 ≤ 9) ∧ (0 ≤ tat t 3 ∧ tat t 3 ≤ 2)) (hw : wrongS (Sx a) (tat t) = 0) : Held (Sx a) (tat t) := ⟨(in4 hl h).2, hw⟩
theorem sx3_a : Held (Sx 3) (tat [1, 4, 2, 2]) := held4 rfl (by decide) (by rw [wrong4]; decide)
theorem sx3_b : Held (Sx 3) (tat [0, 5, 3, 1]) := held4 rfl (by decide) (by rw [wrong4]; decide)
theorem sx3_c : Held (Sx 3) (tat [0, 6, 3, 1]) := held4 rfl (by decide) (by rw [wrong4]; decide)
theorem sx3_d : Held (Sx 3) (tat [1, 5, 2, 2]) := held4 rfl (by decide) (by rw [wrong4]; decide)
theorem sx3_off : offS (Sx 3) = 0 := (off_zero (sx_ok (by decide))).2 ⟨_, sx3_a⟩
theorem ok5 (i : Nat) : one3 (tat [0, 1, -1, 0, 0] i) := by
  match i with
  | 0 => exact ⟨by decide, by decide⟩
  | 1 => exact ⟨by decide, by decide⟩
  | 2 => exact ⟨by decide, by decide⟩
  | 3 => exact ⟨by decide, by decide⟩
  | 4 => exact ⟨by decide, by decide⟩
  | i + 5 => exact ⟨by simp [tat], by simp [tat]⟩
theorem sx1_off : offS (Sx 1) = 1 := by
  have h1 := off_le (sx_ok (a := 1) (by decide)) (T := tat [0, 5, 2, 2]) (in4 rfl (by decide)).2
  rw [wrong4, show bes (tat [0, 5, 2, 2] 0 + tat [0, 5, 2, 2] 1 + (tat [0, 5, 2, 2] 2 + tat [0, 5, 2, 2] 3)) (9, 10) + (bes (tat [0, 5, 2, 2] 0 + tat [0, 5, 2, 2] 1) (5, 6) + bes (tat [0, 5, 2, 2] 2 + tat [0, 5, 2, 2] 3) (4, 4)) + (bes (tat [0, 5, 2, 2] 0 + tat [0, 5, 2, 2] 2) (1, 1) + bes (tat [0, 5, 2, 2] 1 + tat [0, 5, 2, 2] 3) (5, 8)) = 1 from by decide] at h1
  have h2 := le_off (sx_ok (a := 1) (by decide)) (W := wsW 2 2 [0, 1, -1, 0, 0]) ⟨fun i _ => ok5 i, fun i _ => ok5 (2 + i), ok5 4⟩
  have : boundS (Sx 1) (wsW 2 2 [0, 1, -1, 0, 0]) = 1 := by decide
  omega
theorem sx3_held {U : Nat → Int} (h : Held (Sx 3) U) : (5 ≤ U 0 + U 1 ∧ U 0 + U 1 ≤ 6) ∧ U 2 + U 3 = 4 ∧ U 0 + U 2 = 3 ∧ (5 ≤ U 1 + U 3 ∧ U 1 + U 3 ≤ 8) ∧ (0 ≤ U 0 ∧ U 0 ≤ 3) ∧ (1 ≤ U 1 ∧ U 1 ≤ 9) ∧ (0 ≤ U 2 ∧ U 2 ≤ 9) ∧ (0 ≤ U 3 ∧ U 3 ≤ 2) := by
  have hw := h.ok
  rw [wrong4] at hw
  have a0 := h.inn 0 (by decide)
  have a1 := h.inn 1 (by decide)
  have a2 := h.inn 2 (by decide)
  have a3 := h.inn 3 (by decide)
  have c0 : rgAt (Sx 3).cs 0 = (0, 3) := rfl
  have c1 : rgAt (Sx 3).cs 1 = (1, 9) := rfl
  have c2 : rgAt (Sx 3).cs 2 = (0, 9) := rfl
  have c3 : rgAt (Sx 3).cs 3 = (0, 2) := rfl
  rw [c0] at a0
  rw [c1] at a1
  rw [c2] at a2
  rw [c3] at a3
  unfold bes at hw
  dsimp only at hw a0 a1 a2 a3
  omega
theorem kCell_at (i : Nat) (T : Nat → Int) (a : Int) : (kCell (Sx a).m i).val (Sx a) T = T i := kCell_val T i
theorem sx3_span : Ends (Sx 3) (kCell (Sx 3).m 1) 4 6 := by
  refine ⟨by decide, fun v h1 h2 => ?_, fun U hU => ?_⟩
  · have : v = 4 ∨ v = 5 ∨ v = 6 := by omega
    rcases this with rfl | rfl | rfl
    · exact ⟨_, sx3_a, kCell_at 1 _ _⟩
    · exact ⟨_, sx3_b, kCell_at 1 _ _⟩
    · exact ⟨_, sx3_c, kCell_at 1 _ _⟩
  · rw [kCell_at]
    have := sx3_held hU
    omega
theorem sx3_sum : Ends (Sx 3) .upW 9 10 := by
  refine ⟨by decide, fun v h1 h2 => ?_, fun U hU => ?_⟩
  · have : v = 9 ∨ v = 10 := by omega
    rcases this with rfl | rfl
    · exact ⟨_, sx3_a, by decide⟩
    · exact ⟨_, sx3_d, by decide⟩
  · exact (held_in hU.ok).2.2
def endE (S : Sh) (i : Nat) : Int × Int := (tat (loL S (kCell S.m i) (bestT S)) i, tat (hiL S (kCell S.m i) (bestT S)) i)
theorem endE_is {S : Sh} (hS : S.Ok) (h0 : offS S = 0) {i : Nat} (hi : i < S.cs.length) : Ends S (kCell S.m i) (endE S i).1 (endE S i).2 := by
  have h := ends_best hS h0 (κ := kCell S.m i) trivial (kCell_is hS hi)
  rw [kCell_val, kCell_val] at h
  exact h
theorem sx3_sure : sureK (endE (Sx 3)) 4 = [] := by
  have hne : ∀ i, i < 4 → tat [1, 4, 2, 2] i ≠ tat [0, 5, 3, 1] i → ¬ (endE (Sx 3) i).1 = (endE (Sx 3) i).2 := fun i hi hd e => by
    have h := endE_is (sx_ok (a := 3) (by decide)) sx3_off (i := i) hi
    have h1 := h.in_ _ sx3_a
    have h2 := h.in_ _ sx3_b
    rw [kCell_at] at h1 h2
    omega
  rw [sureK_succ, if_neg (hne 3 (by decide) (by decide)), sureK_succ, if_neg (hne 2 (by decide) (by decide)), sureK_succ, if_neg (hne 1 (by decide) (by decide)), sureK_succ, if_neg (hne 0 (by decide) (by decide))]
  rfl
theorem sheet_any (a : Int) (w : World) : Calls Tryd.prog 49 #[.int .i64 a] w fun e w' => ∃ s : ShM, e = .returned (.agg #[.slice s.A0 s.l0.length s.c0, .slice s.A1 s.l1.length s.c1, .int .i64 s.a2, .int .i64 s.a3, .slice s.A4 s.l4.length s.c4]) ∧ s.sh = Sx a ∧ ShR w' s ∧ Below w.heap.size w w' := by
  refine (peaveylaw11_Sheet.calls a _ _ _ _ _ w rfl).mono ?_
  rintro e w' ⟨v0, v1, v4, rfl, h0, h1, h4, hb⟩
  obtain ⟨A0, c0, rfl, hc0, hr0⟩ := Kd.R_reads h0
  obtain ⟨A1, c1, rfl, hc1, hr1⟩ := Kd.R_reads h1
  obtain ⟨A4, c4, rfl, hc4, hr4⟩ := Kd.R_reads h4
  exact ⟨⟨A0, c0, _, A1, c1, _, 9, 10, A4, c4, _⟩, rfl, rfl, ⟨hr0, hc0, hr1, hc1, hr4, hc4⟩, hb⟩
structure WkAt (w0 : World) (b1 b2 : Nat) (s t : ShM) (V : World) : Prop where
  x : BoxS V b1 s
  y : BoxS V b2 t
  rs : ShR V s
  rt : ShR V t
  v : VarsAt V
  b : Below w0.heap.size w0 V
theorem WkAt.below {w0 V V' : World} {b1 b2 : Nat} {s t : ShM} (h : WkAt w0 b1 b2 s t V) (hb : Below V.heap.size V V') : WkAt w0 b1 b2 s t V' := ⟨h.x.below hb, h.y.below hb, h.rs.below hb, h.rt.below hb, h.v.below hb, h.b.trans (hb.mono h.b.size)⟩
theorem reads_lit {w : World} {xs : List Int} {e : TypeId} (hl : xs.length ≤ 1000) : Kd.C (Kd.int .i64) (w.alloc (.cells (nums .i64 xs).toArray e)) (some ⟨w.heap.size, 0, none⟩) xs.length xs :=
  Kd.C_of_reads (d := (0 : Int)) (h1 := fun _ => rfl) ⟨rfl, by omega, fun _ => ⟨_, rfl, fun j hj => by
    rw [add_plain, cell_of_row _ _ _ _ _ _ (heap_alloc_last w _)]
    simp [nums, hj, List.getD_eq_getElem?_getD]⟩⟩
theorem rg_any (a b : Int) (w : World) : Calls Tryd.prog 40 #[.int .i64 a, .int .i64 b] w fun e w' => e = .returned (.agg #[.int .i64 a, .int .i64 b]) ∧ Below w.heap.size w w' := peaveylaw11_rg.calls a b a b w rfl
set_option maxHeartbeats 16000000 in
set_option maxRecDepth 100000 in
theorem works_any (w : World) (hv : VarsAt w) : Calls Tryd.prog 17 #[] w fun e w' => e = .returned (.bool true) ∧ Below w.heap.size w w' := by
  have HV0 := Lib.hid hv
  clear hv
  go_enter Tryd.func17, Tryd.ntmps17
  go_wp2_with fail
  refine (sheet_any 3 w).mono ?_
  rintro e v0 ⟨s, rfl, hsh, hrs, hb0⟩
  have H0 := Lib.hid (And.intro hsh (And.intro hrs hb0))
  clear hsh hrs hb0
  go_wp2_with fail
  refine (sheet_any 1 v0).mono ?_
  rintro e v1 ⟨t, rfl, hsh, hrs, hb0⟩
  have H1 := Lib.hid (And.intro hsh (And.intro hrs hb0))
  clear hsh hrs hb0
  obtain ⟨W2, hW2⟩ : ∃ W2, W2 = (v1.alloc (.cells #[.slice s.A0 s.l0.length s.c0, .slice s.A1 s.l1.length s.c1, .int .i64 s.a2, .int .i64 s.a3, .slice s.A4 s.l4.length s.c4] 26)).alloc (.cells #[.slice t.A0 t.l0.length t.c0, .slice t.A1 t.l1.length t.c1, .int .i64 t.a2, .int .i64 t.a3, .slice t.A4 t.l4.length t.c4] 26) := ⟨_, rfl⟩
  obtain ⟨b1, hb1⟩ : ∃ b1, b1 = v1.heap.size := ⟨_, rfl⟩
  obtain ⟨b2, hb2⟩ : ∃ b2, b2 = b1 + 1 := ⟨_, rfl⟩
  have hbx : Below v1.heap.size v1 W2 := by rw [hW2]; exact ((Below.refl _ _).alloc (Nat.le_refl _) _).alloc (by simp) _
  have HV : Hid (WkAt w b1 b2 s t W2) := Lib.hid (by
    have h1 := H0.out.2.2.trans (H1.out.2.2.mono H0.out.2.2.size)
    have h2 := h1.trans (hbx.mono h1.size)
    refine ⟨?_, ?_, (H0.out.2.1.below H1.out.2.2).below hbx, H1.out.2.1.below hbx, HV0.out.below h2, h2⟩
    · rw [hW2, hb1]; exact heap_past (box_new v1 s) _
    · rw [hW2, hb2, hb1]
      have h3 := box_new (v1.alloc (.cells #[.slice s.A0 s.l0.length s.c0, .slice s.A1 s.l1.length s.c1, .int .i64 s.a2, .int .i64 s.a3, .slice s.A4 s.l4.length s.c4] 26)) t
      rw [World.size_alloc] at h3
      exact h3)
  have HSH : Hid (s.sh = Sx 3 ∧ t.sh = Sx 1) := Lib.hid ⟨H0.out.1, H1.out.1⟩
  clear hbx H0 H1
  go_upto_region 2 with fail
  rw [← hW2, ← hb1, ← hb2]
  clear hW2 hb1 hb2
  have HOK : Hid (s.Ok ∧ t.Ok ∧ s.l0.length = 2 ∧ s.l1.length = 2 ∧ s.l4.length = 4 ∧ t.l0.length = 2 ∧ t.l1.length = 2 ∧ t.l4.length = 4) := Lib.hid ⟨by rw [ShM.Ok, HSH.out.1]; exact sx_ok (by decide), by rw [ShM.Ok, HSH.out.2]; exact sx_ok (by decide), by rw [← s.len0, HSH.out.1]; rfl, by rw [← s.len1, HSH.out.1]; rfl, by rw [← s.len4, HSH.out.1]; rfl, by rw [← t.len0, HSH.out.2]; rfl, by rw [← t.len1, HSH.out.2]; rfl, by rw [← t.len4, HSH.out.2]; rfl⟩
  have x0 := HV.out.x.c0
  have x1 := HV.out.x.c1
  have x2 := HV.out.x.c2
  have x3 := HV.out.x.c3
  have x4 := HV.out.x.c4
  obtain ⟨U2, hU2⟩ : ∃ U, U = W2.alloc (.cells (nums .i64 [1, 4, 2, 2]).toArray 2) := ⟨_, rfl⟩
  have hl2 : Kd.C (Kd.int .i64) U2 (some ⟨W2.heap.size, 0, none⟩) [1, 4, 2, 2].length [1, 4, 2, 2] := by rw [hU2]; exact reads_lit (by decide)
  have hb2 : Below W2.heap.size W2 U2 := by rw [hU2]; exact (Below.refl _ _).alloc (Nat.le_refl _) _
  have HC2 := Lib.hid (wrongT_any s _ 4 [1, 4, 2, 2] U2 (HV.out.rs.below hb2) HOK.out.1 hl2 (by decide) HOK.out.2.2.2.2.1.symm 0 0 (.inl ⟨by rw [HSH.out.1]; exact in4 rfl (by decide), by rw [HSH.out.1, wrong4]; decide, rfl⟩))
  have HU2 := Lib.hid hb2
  clear hl2 hb2
  simp only [nums, List.map_cons, List.map_nil] at hU2
  go_upto_region 3 with (go_at_call 18; rw [← hU2]; refine HC2.out.mono ?_; rintro e v2 ⟨rfl, h1⟩; have Hv2 := Lib.hid (HU2.out.trans (h1.mono HU2.out.size)); clear h1 hU2)
  clear x0 x1 x2 x3 x4
  replace HV := Lib.hid (HV.out.below Hv2.out)
  have x0 := HV.out.x.c0
  have x1 := HV.out.x.c1
  have x2 := HV.out.x.c2
  have x3 := HV.out.x.c3
  have x4 := HV.out.x.c4
  obtain ⟨U3, hU3⟩ : ∃ U, U = v2.alloc (.cells (nums .i64 [3, 1, 0, 0]).toArray 2) := ⟨_, rfl⟩
  have hl3 : Kd.C (Kd.int .i64) U3 (some ⟨v2.heap.size, 0, none⟩) [3, 1, 0, 0].length [3, 1, 0, 0] := by rw [hU3]; exact reads_lit (by decide)
  have hb3 : Below v2.heap.size v2 U3 := by rw [hU3]; exact (Below.refl _ _).alloc (Nat.le_refl _) _
  have HC3 := Lib.hid (wrongT_any s _ 4 [3, 1, 0, 0] U3 (HV.out.rs.below hb3) HOK.out.1 hl3 (by decide) HOK.out.2.2.2.2.1.symm 14 0 (.inl ⟨by rw [HSH.out.1]; exact in4 rfl (by decide), by rw [HSH.out.1, wrong4]; decide, rfl⟩))
  have HU3 := Lib.hid hb3
  clear hl3 hb3
  simp only [nums, List.map_cons, List.map_nil] at hU3
  go_upto_region 4 with (go_at_call 18; rw [← hU3]; refine HC3.out.mono ?_; rintro e v3 ⟨rfl, h1⟩; have Hv3 := Lib.hid (HU3.out.trans (h1.mono HU3.out.size)); clear h1 hU3)
  clear x0 x1 x2 x3 x4
  replace HV := Lib.hid (HV.out.below Hv3.out)
  have x0 := HV.out.y.c0
  have x1 := HV.out.y.c1
  have x2 := HV.out.y.c2
  have x3 := HV.out.y.c3
  have x4 := HV.out.y.c4
  have HC4 := Lib.hid (off_ok t v3 HV.out.v HV.out.rt HOK.out.2.1 1 (by rw [HSH.out.2, sx1_off]))
  go_upto_region 5 with (go_at_call 25; refine HC4.out.mono ?_; rintro e v4 ⟨rfl, h1⟩; have Hv4 := Lib.hid h1; clear h1)
  clear x0 x1 x2 x3 x4
  replace HV := Lib.hid (HV.out.below Hv4.out)
  have x0 := HV.out.y.c0
  have x1 := HV.out.y.c1
  have x2 := HV.out.y.c2
  have x3 := HV.out.y.c3
  have x4 := HV.out.y.c4
  obtain ⟨U5, hU5⟩ : ∃ U, U = v4.alloc (.cells (nums .i64 [0, 1, (-1), 0, 0]).toArray 3) := ⟨_, rfl⟩
  have hl5 : Kd.C (Kd.int .i64) U5 (some ⟨v4.heap.size, 0, none⟩) [0, 1, (-1 : Int), 0, 0].length [0, 1, (-1), 0, 0] := by rw [hU5]; exact reads_lit (by decide)
  have hb5 : Below v4.heap.size v4 U5 := by rw [hU5]; exact (Below.refl _ _).alloc (Nat.le_refl _) _
  have HC5 := Lib.hid (weightsT_any t _ 5 [0, 1, -1, 0, 0] U5 (HV.out.rt.below hb5) HOK.out.2.1 hl5 (by decide) (by rw [HOK.out.2.2.2.2.2.1, HOK.out.2.2.2.2.2.2.1]; rfl) 1 0 (.inl ⟨inW3_of (by unfold In3; decide), by rw [HSH.out.2, HOK.out.2.2.2.2.2.1, HOK.out.2.2.2.2.2.2.1]; decide, rfl⟩))
  have HU5 := Lib.hid hb5
  clear hl5 hb5
  simp only [nums, List.map_cons, List.map_nil] at hU5
  go_upto_region 6 with (go_at_call 22; rw [← hU5]; refine HC5.out.mono ?_; rintro e v5 ⟨rfl, h1⟩; have Hv5 := Lib.hid (HU5.out.trans (h1.mono HU5.out.size)); clear h1 hU5)
  clear x0 x1 x2 x3 x4
  replace HV := Lib.hid (HV.out.below Hv5.out)
  have x0 := HV.out.x.c0
  have x1 := HV.out.x.c1
  have x2 := HV.out.x.c2
  have x3 := HV.out.x.c3
  have x4 := HV.out.x.c4
  have HC6 := Lib.hid (table_ok s v5 HV.out.v HV.out.rs HOK.out.1)
  go_upto_region 7 with (go_at_call 27; refine HC6.out.mono ?_; rintro e v6 ⟨T6, rfl, hx, h1⟩; have HX6 := Lib.hid hx; have Hv6 := Lib.hid h1; clear h1 hx)
  clear x0 x1 x2 x3 x4
  replace HV := Lib.hid (HV.out.below Hv6.out)
  have x0 := HV.out.y.c0
  have x1 := HV.out.y.c1
  have x2 := HV.out.y.c2
  have x3 := HV.out.y.c3
  have x4 := HV.out.y.c4
  have HC7 := Lib.hid (weights_ok t v6 HV.out.v HV.out.rt HOK.out.2.1)
  go_upto_region 8 with (go_at_call 28; refine HC7.out.mono ?_; rintro e v7 ⟨A7, c7, rfl, hx, h1⟩; have HX7 := Lib.hid (own_out hx); have Hv7 := Lib.hid h1; clear h1 hx)
  clear x0 x1 x2 x3 x4
  replace HV := Lib.hid (HV.out.below Hv7.out)
  have x0 := HV.out.x.c0
  have x1 := HV.out.x.c1
  have x2 := HV.out.x.c2
  have x3 := HV.out.x.c3
  have x4 := HV.out.x.c4
  have HC8 : Hid (Calls Tryd.prog 29 #[.agg #[.slice s.A0 s.l0.length s.c0, .slice s.A1 s.l1.length s.c1, .int .i64 s.a2, .int .i64 s.a3, .slice s.A4 s.l4.length s.c4], .int .i64 0, .int .i64 1] v7 fun e w' => e = .returned (.tuple #[.agg #[.int .i64 4, .int .i64 6], .int .i64 0]) ∧ Below v7.heap.size v7 w') := Lib.hid (spanT_ok s 1 0 1 v7 HV.out.v HV.out.rs HOK.out.1 (by rw [HOK.out.2.2.1]; decide) (by rw [HOK.out.2.2.2.1]; decide) (by omega) (by rw [HSH.out.1]; exact sx3_off) 4 6 (by rw [HSH.out.1]; exact sx3_span))
  go_upto_region 9 with (go_at_call 29; refine HC8.out.mono ?_; rintro e v8 ⟨rfl, h1⟩; have Hv8 := Lib.hid h1; clear h1)
  clear x0 x1 x2 x3 x4
  obtain ⟨X8, hX8⟩ : ∃ X, X = v8.alloc (.cells #[.int .i64 4, .int .i64 6] 24) := ⟨_, rfl⟩
  obtain ⟨r8, hr8⟩ : ∃ r, r = v8.heap.size := ⟨_, rfl⟩
  have hb : Below v8.heap.size v8 X8 := by rw [hX8]; exact (Below.refl _ _).alloc (Nat.le_refl _) _
  have hq : X8.heap[r8]? = some (.cells #[.int .i64 4, .int .i64 6] 24 (0, 0)) := by rw [hX8, hr8]; exact heap_alloc_last _ _
  have HR8 := Lib.hid hq
  have Hb8 : Hid (Below v7.heap.size v7 X8) := Lib.hid (Hv8.out.trans (hb.mono Hv8.out.size))
  replace HV := Lib.hid (HV.out.below Hb8.out)
  rw [← hX8, ← hr8]
  clear hX8 hr8 hb hq
  have x0 := HV.out.y.c0
  have x1 := HV.out.y.c1
  have x2 := HV.out.y.c2
  have x3 := HV.out.y.c3
  have x4 := HV.out.y.c4
  have HC9 : Hid (Calls Tryd.prog 29 #[.agg #[.slice t.A0 t.l0.length t.c0, .slice t.A1 t.l1.length t.c1, .int .i64 t.a2, .int .i64 t.a3, .slice t.A4 t.l4.length t.c4], .int .i64 0, .int .i64 0] X8 fun e w' => e = .returned (.tuple #[.agg #[.int .i64 0, .int .i64 0], .int .i64 24]) ∧ Below X8.heap.size X8 w') := Lib.hid (spanT_not t 0 0 X8 HV.out.v HV.out.rt HOK.out.2.1 (by rw [HOK.out.2.2.2.2.2.1]; decide) (by rw [HOK.out.2.2.2.2.2.2.1]; decide) (by rw [HSH.out.2, sx1_off]; decide))
  go_upto_region 10 with (go_at_call 29; refine HC9.out.mono ?_; rintro e v9 ⟨rfl, h1⟩; have Hv9 := Lib.hid h1; clear h1)
  clear x0 x1 x2 x3 x4
  obtain ⟨X9, hX9⟩ : ∃ X, X = v9.alloc (.cells #[.int .i64 0, .int .i64 0] 24) := ⟨_, rfl⟩
  obtain ⟨r9, hr9⟩ : ∃ r, r = v9.heap.size := ⟨_, rfl⟩
  have hb : Below v9.heap.size v9 X9 := by rw [hX9]; exact (Below.refl _ _).alloc (Nat.le_refl _) _
  have hq : X9.heap[r9]? = some (.cells #[.int .i64 0, .int .i64 0] 24 (0, 0)) := by rw [hX9, hr9]; exact heap_alloc_last _ _
  have HR9 := Lib.hid hq
  have Hb9 : Hid (Below X8.heap.size X8 X9) := Lib.hid (Hv9.out.trans (hb.mono Hv9.out.size))
  replace HV := Lib.hid (HV.out.below Hb9.out)
  rw [← hX9, ← hr9]
  clear hX9 hr9 hb hq
  have x0 := HV.out.x.c0
  have x1 := HV.out.x.c1
  have x2 := HV.out.x.c2
  have x3 := HV.out.x.c3
  have x4 := HV.out.x.c4
  have HC10 : Hid (Calls Tryd.prog 33 #[.agg #[.slice s.A0 s.l0.length s.c0, .slice s.A1 s.l1.length s.c1, .int .i64 s.a2, .int .i64 s.a3, .slice s.A4 s.l4.length s.c4]] X9 fun e w' => e = .returned (.tuple #[.agg #[.int .i64 9, .int .i64 10], .int .i64 0]) ∧ Below X9.heap.size X9 w') := Lib.hid (sumT_ok s X9 HV.out.v HV.out.rs HOK.out.1 (by rw [HSH.out.1]; exact sx3_off) 9 10 (by rw [HSH.out.1]; exact sx3_sum))
  go_upto_region 11 with (go_at_call 33; refine HC10.out.mono ?_; rintro e v10 ⟨rfl, h1⟩; have Hv10 := Lib.hid h1; clear h1)
  clear x0 x1 x2 x3 x4
  obtain ⟨X10, hX10⟩ : ∃ X, X = v10.alloc (.cells #[.int .i64 9, .int .i64 10] 24) := ⟨_, rfl⟩
  obtain ⟨r10, hr10⟩ : ∃ r, r = v10.heap.size := ⟨_, rfl⟩
  have hb : Below v10.heap.size v10 X10 := by rw [hX10]; exact (Below.refl _ _).alloc (Nat.le_refl _) _
  have hq : X10.heap[r10]? = some (.cells #[.int .i64 9, .int .i64 10] 24 (0, 0)) := by rw [hX10, hr10]; exact heap_alloc_last _ _
  have HR10 := Lib.hid hq
  have Hb10 : Hid (Below X9.heap.size X9 X10) := Lib.hid (Hv10.out.trans (hb.mono Hv10.out.size))
  replace HV := Lib.hid (HV.out.below Hb10.out)
  rw [← hX10, ← hr10]
  clear hX10 hr10 hb hq
  have x0 := HV.out.x.c0
  have x1 := HV.out.x.c1
  have x2 := HV.out.x.c2
  have x3 := HV.out.x.c3
  have x4 := HV.out.x.c4
  have HC11 : Hid (Calls Tryd.prog 31 #[.agg #[.slice s.A0 s.l0.length s.c0, .slice s.A1 s.l1.length s.c1, .int .i64 s.a2, .int .i64 s.a3, .slice s.A4 s.l4.length s.c4]] X10 fun e w' => ∃ A c, e = .returned (.tuple #[.slice A 0 c, .int .i64 0]) ∧ Below X10.heap.size X10 w') := Lib.hid (by
    have h := sureT_ok s X10 HV.out.v HV.out.rs HOK.out.1 (by rw [HSH.out.1]; exact sx3_off) (endE s.sh) (fun i hi => endE_is HOK.out.1 (by rw [HSH.out.1]; exact sx3_off) (by rw [ShM.len4]; exact hi))
    have hk : sureK (endE s.sh) s.l4.length = [] := by rw [HOK.out.2.2.2.2.1, HSH.out.1, sx3_sure]
    rw [hk] at h
    refine h.mono ?_
    rintro e w' ⟨A, c, rfl, -, hb⟩
    exact ⟨A, c, rfl, hb⟩)
  go_upto_region 12 with (go_at_call 31; refine HC11.out.mono ?_; rintro e v11 ⟨A11, c11, rfl, h1⟩; have Hv11 := Lib.hid h1; clear h1)
  clear x0 x1 x2 x3 x4
  -- CUT12
  go_upto_region 14 with fail
  -- CUT13
  replace HV := Lib.hid (HV.out.below Hv11.out)
  have Hb711 : Hid (Below v7.heap.size v7 v11) := Lib.hid (by
    have h1 := Hb8.out.size
    have h2 := Hb9.out.size
    have h3 := Hb10.out.size
    exact Hb8.out.trans ((Hb9.out.trans ((Hb10.out.trans (Hv11.out.mono h3)).mono h2)).mono h1))
  have HX6b := Lib.hid (Kd.C_below HX6.out (Hv7.out.trans (Hb711.out.mono Hv7.out.size)))
  have x0 := HV.out.x.c0
  have x1 := HV.out.x.c1
  have x2 := HV.out.x.c2
  have x3 := HV.out.x.c3
  have x4 := HV.out.x.c4
  have HC14 := Lib.hid (refWrong_ok s (some ⟨T6, 0, none⟩) (bestT s.sh).length (bestT s.sh) v11 HV.out.rs HX6b.out (Nat.le_refl _) HOK.out.1 (best_in HOK.out.1) 0 (by show (0 : Int) = offS s.sh; rw [HSH.out.1, sx3_off]))
  go_upto_region 15 with (go_at_call 19; refine HC14.out.mono ?_; rintro e v14 ⟨rfl, h1⟩; have Hv14 := Lib.hid h1; clear h1)
  clear x0 x1 x2 x3 x4
  replace HV := Lib.hid (HV.out.below Hv14.out)
  have x0 := HV.out.y.c0
  have x1 := HV.out.y.c1
  have x2 := HV.out.y.c2
  have x3 := HV.out.y.c3
  have x4 := HV.out.y.c4
  obtain ⟨A7', c7', e7, hc7, -, hr7⟩ := HX7.out
  have HC15 : Hid (Calls Tryd.prog 23 #[.agg #[.slice t.A0 t.l0.length t.c0, .slice t.A1 t.l1.length t.c1, .int .i64 t.a2, .int .i64 t.a3, .slice t.A4 t.l4.length t.c4], .slice A7 (t.l0.length + t.l1.length + 1) c7] v14 fun e w' => e = .returned (.tuple #[.int .i64 1, .int .i64 0]) ∧ Below v14.heap.size v14 w') := Lib.hid (by
    have hbl := bestL_length t
    have hrt := HV.out.rt
    have hb7 : Below v7.heap.size v7 v14 := Hb711.out.trans (Hv14.out.mono Hb711.out.size)
    have hrd : Kd.C (Kd.int .i64) v14 A7' (bestL t).length (bestL t) := Kd.C_below (Kd.C_of_reads (d := (0 : Int)) (h1 := fun _ => rfl) hr7) hb7
    have h := peaveyref11_CheckWeights.calls 400 t.A0 t.c0 t.l0 t.A1 t.c1 t.l1 t.a2 t.a3 t.A4 t.c4 t.l4 A7' c7' (bestL t) 1 0 v14 hrt.r0 hrt.h0 hrt.r1 hrt.h1 hrt.r4 hrt.h4 hrd hc7 (refWeights_any t HOK.out.2.1 (bestL t) hbl (by omega) 1 0 (.inl ⟨bestL_in HOK.out.2.1, by rw [bestL_bound HOK.out.2.1, HSH.out.2, sx1_off], rfl⟩))
    rw [← show Value.slice A7 (t.l0.length + t.l1.length + 1) c7 = Value.slice A7' (bestL t).length c7' from e7] at h
    exact h)
  clear e7 hc7 hr7
  go_upto_region 16 with (go_at_call 23; refine HC15.out.mono ?_; rintro e v15 ⟨rfl, h1⟩; have Hv15 := Lib.hid h1; clear h1)
  clear x0 x1 x2 x3 x4
  have HQ : Hid (v15.heap[r8]? = some (.cells #[.int .i64 4, .int .i64 6] 24 (0, 0)) ∧ v15.heap[r10]? = some (.cells #[.int .i64 9, .int .i64 10] 24 (0, 0)) ∧ Below w.heap.size w v15) := Lib.hid (by
    have h3 := Hb10.out.size
    have h2 := Hb9.out.size
    have hz : Below X10.heap.size X10 v15 := Hv11.out.trans ((Hv14.out.trans (Hv15.out.mono Hv14.out.size)).mono Hv11.out.size)
    have hy : Below X8.heap.size X8 v15 := Hb9.out.trans ((Hb10.out.trans (hz.mono h3)).mono h2)
    exact ⟨(hy.block _ (heap_lt HR8.out)).trans HR8.out, (hz.block _ (heap_lt HR10.out)).trans HR10.out, HV.out.b.trans (Hv15.out.mono HV.out.b.size)⟩)
  have p0 : v15.cell? ⟨r8, 0, none⟩ = some (.int .i64 4) := by rw [cell_of_row _ _ _ _ _ _ HQ.out.1]; rfl
  have p1 : v15.cell? ⟨r8, 1, none⟩ = some (.int .i64 6) := by rw [cell_of_row _ _ _ _ _ _ HQ.out.1]; rfl
  have q0 : v15.cell? ⟨r10, 0, none⟩ = some (.int .i64 9) := by rw [cell_of_row _ _ _ _ _ _ HQ.out.2.1]; rfl
  have q1 : v15.cell? ⟨r10, 1, none⟩ = some (.int .i64 10) := by rw [cell_of_row _ _ _ _ _ _ HQ.out.2.1]; rfl
  have hS : Below v15.heap.size v15 v15.drew := (Below.refl _ _).drew
  refine wp_region_held_list (k := 46) rfl (fun w' => Below v15.heap.size v15 w') (by kernel_rfl) ?_
  generalize v15.drew = W0 at hS ⊢
  refine tk 0 (.int .i64 0) rfl (fun w' hw' => by go_simp) hS ?_
  refine tk 1 (.bool true) rfl (fun w' hw' => by go_simp) hS ?_
  refine tk 2 (.bool true) rfl (fun w' hw' => by go_simp) hS ?_
  refine tk 3 (.int .i64 14) rfl (fun w' hw' => by go_simp) hS ?_
  (try simp only [Act.put, List.setIfInBounds_toArray, List.set_cons_zero, List.set_cons_succ])
  refine tk 4 (.bool true) rfl (fun w' hw' => by go_simp) hS ?_
  refine tk 5 (.bool true) rfl (fun w' hw' => by go_simp) hS ?_
  refine tk 6 (.bool true) rfl (fun w' hw' => by go_simp) hS ?_
  refine tk 7 (.int .i64 1) rfl (fun w' hw' => by go_simp) hS ?_
  (try simp only [Act.put, List.setIfInBounds_toArray, List.set_cons_zero, List.set_cons_succ])
  refine tk 8 (.bool true) rfl (fun w' hw' => by go_simp) hS ?_
  refine tk 9 (.bool true) rfl (fun w' hw' => by go_simp) hS ?_
  refine tk 10 (.bool true) rfl (fun w' hw' => by go_simp) hS ?_
  refine tk 11 (.int .i64 1) rfl (fun w' hw' => by go_simp) hS ?_
  (try simp only [Act.put, List.setIfInBounds_toArray, List.set_cons_zero, List.set_cons_succ])
  refine tk 12 (.bool true) rfl (fun w' hw' => by go_simp) hS ?_
  refine tk 13 (.bool true) rfl (fun w' hw' => by go_simp) hS ?_
  refine tk 14 (.bool true) rfl (fun w' hw' => by go_simp) hS ?_
  refine tk 15 (.int .i64 0) rfl (fun w' hw' => by go_simp) hS ?_
  (try simp only [Act.put, List.setIfInBounds_toArray, List.set_cons_zero, List.set_cons_succ])
  refine tk 16 (.bool true) rfl (fun w' hw' => by go_simp) hS ?_
  refine tk 17 (.bool true) rfl (fun w' hw' => by go_simp) hS ?_
  refine tk 18 (.bool true) rfl (fun w' hw' => by go_simp) hS ?_
  refine tk 19 (.int .i64 0) rfl (fun w' hw' => by go_simp) hS ?_
  (try simp only [Act.put, List.setIfInBounds_toArray, List.set_cons_zero, List.set_cons_succ])
  refine tk 20 (.bool true) rfl (fun w' hw' => by go_simp) hS ?_
  refine tk 21 (.bool true) rfl (fun w' hw' => by go_simp) hS ?_
  refine tk 22 (.bool true) rfl (fun w' hw' => by go_simp) hS ?_
  refine tk 23 (.int .i64 0) rfl (fun w' hw' => by go_simp) hS ?_
  (try simp only [Act.put, List.setIfInBounds_toArray, List.set_cons_zero, List.set_cons_succ])
  refine tk 24 (.bool true) rfl (fun w' hw' => by go_simp) hS ?_
  refine tk 25 (.bool true) rfl (fun w' hw' => by go_simp) hS ?_
  refine tk 26 (.bool true) rfl (fun w' hw' => by go_simp) hS ?_
  refine tk 27 (.int .i64 1) rfl (fun w' hw' => by go_simp) hS ?_
  (try simp only [Act.put, List.setIfInBounds_toArray, List.set_cons_zero, List.set_cons_succ])
  refine tk 28 (.bool true) rfl (fun w' hw' => by go_simp) hS ?_
  refine tk 29 (.bool true) rfl (fun w' hw' => by go_simp) hS ?_
  refine tk 30 (.bool true) rfl (fun w' hw' => by go_simp) hS ?_
  refine tk 31 (.agg #[.int .i64 4, .int .i64 6]) rfl (fun w' hw' => by have z0 := held_now hw' p0; have z1 := held_now hw' p1; go_simp) hS ?_
  (try simp only [Act.put, List.setIfInBounds_toArray, List.set_cons_zero, List.set_cons_succ])
  refine step_list (i := 32) (by kernel_rfl) rfl (by rfl) (fun K hK => ?_)
  go_simp
  refine (rg_any 4 6 _).mono ?_
  rintro e U8 ⟨rfl, hbu⟩
  have hS8 := hS.trans (hbu.mono hS.size)
  refine hK _ _ hS8 ?_
  clear hK K hS hbu
  have hS := hS8
  clear hS8
  (try simp only [Act.put, List.setIfInBounds_toArray, List.set_cons_zero, List.set_cons_succ])
  refine tk 33 (.bool true) rfl (fun w' hw' => by go_simp) hS ?_
  refine tk 34 (.bool true) rfl (fun w' hw' => by go_simp) hS ?_
  refine tk 35 (.bool true) rfl (fun w' hw' => by go_simp) hS ?_
  refine tk 36 (.agg #[.int .i64 9, .int .i64 10]) rfl (fun w' hw' => by have z0 := held_now hw' q0; have z1 := held_now hw' q1; go_simp) hS ?_
  (try simp only [Act.put, List.setIfInBounds_toArray, List.set_cons_zero, List.set_cons_succ])
  refine step_list (i := 37) (by kernel_rfl) rfl (by rfl) (fun K hK => ?_)
  go_simp
  refine (rg_any 9 10 _).mono ?_
  rintro e U10 ⟨rfl, hbu⟩
  have hS10 := hS.trans (hbu.mono hS.size)
  refine hK _ _ hS10 ?_
  clear hK K hS hbu
  have hS := hS10
  clear hS10
  (try simp only [Act.put, List.setIfInBounds_toArray, List.set_cons_zero, List.set_cons_succ])
  refine tk 38 (.bool true) rfl (fun w' hw' => by go_simp) hS ?_
  refine tk 39 (.bool true) rfl (fun w' hw' => by go_simp) hS ?_
  refine tk 40 (.bool true) rfl (fun w' hw' => by go_simp) hS ?_
  refine tk 41 (.slice A11 0 c11) rfl (fun w' hw' => by go_simp) hS ?_
  (try simp only [Act.put, List.setIfInBounds_toArray, List.set_cons_zero, List.set_cons_succ])
  refine tk 42 (.int .i64 0) rfl (fun w' hw' => by go_simp) hS ?_
  refine tk 43 (.bool true) rfl (fun w' hw' => by go_simp) hS ?_
  refine tk 44 (.bool true) rfl (fun w' hw' => by go_simp) hS ?_
  refine tk 45 (.bool true) rfl (fun w' hw' => by go_simp) hS ?_
  (try simp only [Act.put, List.setIfInBounds_toArray, List.set_cons_zero, List.set_cons_succ])
  refine wpAnyH_done (by kernel_rfl) ?_ _
  have HE := Lib.hid (HQ.out.2.2.trans (hS.mono HQ.out.2.2.size))
  clear hS p0 p1 q0 q1
  go_wp2_with fail
  refine bodyPost_ret (results_tmp (t := 0) rfl _ _ _) rfl ?_
  exact ⟨rfl, HE.out⟩
end Go.Proofs.YtcbhnhoicecnnaaDoor.Hand
