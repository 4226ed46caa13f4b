/- The row and the tied card of TallyWeights: its walk, over every argument, the variables as they are laid. -/
import Derived.Test.YtcbhnhoicecnnaaDoorZC7
import Derived.Test.YtcbhnhoicecnnaaDoorCards
import Derived.Test.YtcbhnhoicecnnaaDoorRows
import Derived.Test.YtcbhnhoicecnnaaDoorTie
import Derived.SevenTiedAt
set_option linter.unusedVariables false
set_option linter.unusedSimpArgs false
namespace Go.Proofs.YtcbhnhoicecnnaaDoor.Hand
set_option linter.unusedVariables false
set_option linter.unusedSimpArgs false
open Go.RowKit Go.Shelf Go.Maps Go.Proofs.YtcbhnhoicecnnaaDoorW.PrintWords Go.Proofs.YtcbhnhoicecnnaaDoorW.PrintLast Go.Proofs.YtcbhnhoicecnnaaDoorW.PrintMore Go.Proofs.YtcbhnhoicecnnaaDoor.PrK
section
variable {W W' : World} {b : Nat} {s : ShM}
end
set_option maxHeartbeats 4000000 in
set_option maxRecDepth 100000 in
theorem open_bad (s : ShM) (w : World) (h : ShR w s) (er : Int) (her : er = csE s) (hne : ¬ er = 0) :
    Calls Tryd.prog 50 #[.agg #[.slice s.A0 s.l0.length s.c0, .slice s.A1 s.l1.length s.c1, .int .i64 s.a2, .int .i64 s.a3, .slice s.A4 s.l4.length s.c4]] w fun e w' => e = .returned (.tuple #[.pointer none, .int .i64 er]) ∧ Below w.heap.size w w' := by
  obtain ⟨W, hW⟩ : ∃ W, W = w.alloc (.cells #[.slice s.A0 s.l0.length s.c0, .slice s.A1 s.l1.length s.c1, .int .i64 s.a2, .int .i64 s.a3, .slice s.A4 s.l4.length s.c4] 26) := ⟨_, rfl⟩
  have hb : Below w.heap.size w W := by rw [hW]; exact (Below.refl _ _).alloc (Nat.le_refl _) _
  have hX : BoxS W w.heap.size s := by rw [hW]; exact box_new w s
  have hc := check_any s W (h.below hb)
  rw [← her] at hc
  have HC := Lib.hid hc
  have HB := Lib.hid hb
  have gn : (er != 0) = true := by simpa using hne
  have x0 := hX.c0
  have x1 := hX.c1
  have x2 := hX.c2
  have x3 := hX.c3
  have x4 := hX.c4
  clear h hb hX hc her hne
  go_enter Tryd.func50, Tryd.ntmps50
  go_upto_region 1 with fail
  rw [← hW]
  clear hW
  go_wp2_with (go_at_call 20; refine HC.out.mono ?_; rintro e w1 ⟨rfl, h1⟩; have H1 := Lib.hid h1; clear h1)
  refine bodyPost_ret (results_tmp2 rfl _ _ _) rfl ?_
  exact ⟨rfl, HB.out.trans (H1.out.mono HB.out.size)⟩
end Go.Proofs.YtcbhnhoicecnnaaDoor.Hand
namespace Go.Proofs.YtcbhnhoicecnnaaDoor.Hand
set_option linter.unusedVariables false
set_option linter.unusedSimpArgs false
open Go.RowKit Go.Shelf Go.Maps Go.Proofs.YtcbhnhoicecnnaaDoorW.PrintWords Go.Proofs.YtcbhnhoicecnnaaDoorW.PrintLast Go.Proofs.YtcbhnhoicecnnaaDoorW.PrintMore Go.Proofs.YtcbhnhoicecnnaaDoor.PrK
set_option maxHeartbeats 4000000 in
set_option maxRecDepth 100000 in
theorem weightsT_bad (s : ShM) (A : Option Addr) (c : Nat) (l : List Int) (w : World) (h : ShR w s) (er : Int) (her : er = csE s) (hne : ¬ er = 0) :
    Calls Tryd.prog 22 #[.agg #[.slice s.A0 s.l0.length s.c0, .slice s.A1 s.l1.length s.c1, .int .i64 s.a2, .int .i64 s.a3, .slice s.A4 s.l4.length s.c4], .slice A l.length c] w fun e w' => e = .returned (.tuple #[.int .i64 0, .int .i64 er]) ∧ Below w.heap.size w w' := by
  obtain ⟨W, hW⟩ : ∃ W, W = w.alloc (.cells #[.slice s.A0 s.l0.length s.c0, .slice s.A1 s.l1.length s.c1, .int .i64 s.a2, .int .i64 s.a3, .slice s.A4 s.l4.length s.c4] 26) := ⟨_, rfl⟩
  have hb : Below w.heap.size w W := by rw [hW]; exact (Below.refl _ _).alloc (Nat.le_refl _) _
  have hX : BoxS W w.heap.size s := by rw [hW]; exact box_new w s
  have HW := Lib.hid (And.intro hb hX)
  have HO := Lib.hid (open_bad s W (h.below hb) er her hne)
  have gn : (er != 0) = true := by simpa using hne
  have x0 := hX.c0
  have x1 := hX.c1
  have x2 := hX.c2
  have x3 := hX.c3
  have x4 := hX.c4
  clear h her hne hb hX
  go_enter Tryd.func22, Tryd.ntmps22
  go_upto_region 1 with fail
  rw [← hW]
  clear hW
  go_wp2_with (go_at_call 50; refine HO.out.mono ?_; rintro e w1 ⟨rfl, h1⟩; have H1 := Lib.hid h1; clear h1)
  refine bodyPost_ret (results_tmp2 rfl _ _ _) rfl ?_
  exact ⟨rfl, HW.out.1.trans (H1.out.mono HW.out.1.size)⟩
set_option maxHeartbeats 4000000 in
set_option maxRecDepth 100000 in
theorem weightsT_len (s : ShM) (A : Option Addr) (c : Nat) (l : List Int) (w : World) (h : ShR w s) (hS : s.Ok) (hne : ¬ l.length = s.l0.length + s.l1.length + 1) (hl : l.length ≤ 1000000) :
    Calls Tryd.prog 22 #[.agg #[.slice s.A0 s.l0.length s.c0, .slice s.A1 s.l1.length s.c1, .int .i64 s.a2, .int .i64 s.a3, .slice s.A4 s.l4.length s.c4], .slice A l.length c] w fun e w' => e = .returned (.tuple #[.int .i64 0, .int .i64 15]) ∧ Below w.heap.size w w' := by
  obtain ⟨W, hW⟩ : ∃ W, W = w.alloc (.cells #[.slice s.A0 s.l0.length s.c0, .slice s.A1 s.l1.length s.c1, .int .i64 s.a2, .int .i64 s.a3, .slice s.A4 s.l4.length s.c4] 26) := ⟨_, rfl⟩
  have hb : Below w.heap.size w W := by rw [hW]; exact (Below.refl _ _).alloc (Nat.le_refl _) _
  have hX : BoxS W w.heap.size s := by rw [hW]; exact box_new w s
  have HW := Lib.hid (And.intro hb hX)
  have HO := Lib.hid (open_ok s W (h.below hb) hS)
  have n5 : (s.l0.length : Int) ≤ 5 := by have := hS.n5; have := s.len0; unfold Sh.n at this; omega
  have m5 : (s.l1.length : Int) ≤ 5 := by have := hS.m5; have := s.len1; unfold Sh.m at this; omega
  have gn : ((l.length : Int) != (s.l0.length : Int) + (s.l1.length : Int) + 1) = true := by simp; omega
  have w1 : IntKind.i64.wrap ((s.l0.length : Int) + (s.l1.length : Int)) = (s.l0.length : Int) + (s.l1.length : Int) := IntWalk.i64_in _ (by omega)
  have w2 : IntKind.i64.wrap ((s.l0.length : Int) + (s.l1.length : Int) + 1) = (s.l0.length : Int) + (s.l1.length : Int) + 1 := IntWalk.i64_in _ (by omega)
  have x0 := hX.c0
  have x1 := hX.c1
  have x2 := hX.c2
  have x3 := hX.c3
  have x4 := hX.c4
  obtain ⟨b, hbe⟩ : ∃ b, b = w.heap.size := ⟨_, rfl⟩
  rw [← hbe] at x0 x1 x2 x3 x4
  have HBE := Lib.hid hbe
  clear h hS hne hb hX
  go_enter Tryd.func22, Tryd.ntmps22
  go_upto_region 1 with fail
  rw [← hW, ← hbe]
  clear hW hbe
  go_upto_region 2 with (go_at_call 50; refine HO.out.mono ?_; rintro e w1 ⟨B, Tb, rfl, h1⟩; have H1 := Lib.hid h1; clear h1)
  have hX1 : BoxS w1 b s := by rw [HBE.out]; exact HW.out.2.below H1.out.2.2.2
  have x0 := hX1.c0
  have x1 := hX1.c1
  clear hX1
  go_wp2_with fail
  refine bodyPost_ret (results_tmp2 rfl _ _ _) rfl ?_
  exact ⟨rfl, HW.out.1.trans (H1.out.2.2.2.mono HW.out.1.size)⟩
end Go.Proofs.YtcbhnhoicecnnaaDoor.Hand
namespace Go.Proofs.YtcbhnhoicecnnaaDoor.Hand
set_option linter.unusedVariables false
set_option linter.unusedSimpArgs false
open Go.RowKit Go.Shelf Go.Maps Go.Proofs.YtcbhnhoicecnnaaDoorW.PrintWords Go.Proofs.YtcbhnhoicecnnaaDoorW.PrintLast Go.Proofs.YtcbhnhoicecnnaaDoorW.PrintMore Go.Proofs.YtcbhnhoicecnnaaDoor.PrK
theorem refWeights_bad (s : ShM) (ws : List Int) (h4 : s.l4.length ≤ 60) (hne : ¬ csE s = 0) {k : Nat} (hk : 300 < k) : peaveyref11_CheckWeights.f k s.l0 s.l1 s.a2 s.a3 s.l4 ws = some (0, csE s) := by
  unfold peaveyref11_CheckWeights.f
  rw [refCheck_is s h4 (by omega), Option.bind_some, if_neg hne, Option.bind_some]
theorem refWeights_len (s : ShM) (hS : s.Ok) (ws : List Int) (hl : ¬ ws.length = s.l0.length + s.l1.length + 1) {k : Nat} (hk : 300 < k) : peaveyref11_CheckWeights.f k s.l0 s.l1 s.a2 s.a3 s.l4 ws = some (0, 15) := by
  have n5 : s.l0.length ≤ 5 := by have := hS.n5; have := s.len0; unfold Sh.n at this; omega
  have m5 : s.l1.length ≤ 5 := by have := hS.m5; have := s.len1; unfold Sh.m at this; omega
  have l25 := ShM.l25 hS
  unfold peaveyref11_CheckWeights.f
  rw [refCheck_is s (by omega) (by omega), Option.bind_some, if_pos ((csE_ok s).2 hS), show wrap64 ((s.l0.length : Int) + (s.l1.length : Int)) = (s.l0.length : Int) + (s.l1.length : Int) from wadd ⟨by omega, by omega⟩, wadd ⟨by omega, by omega⟩, if_neg (by omega)]
section
variable {W W' : World} {R : Nat} {xs : List Int}
end
end Go.Proofs.YtcbhnhoicecnnaaDoor.Hand
namespace Go.Proofs.YtcbhnhoicecnnaaDoor.PrK
open Go.RowKit Go.Proofs.YtcbhnhoicecnnaaDoorW.PrintWords Go.Proofs.YtcbhnhoicecnnaaDoorW.PrintLast Go.Proofs.YtcbhnhoicecnnaaDoorW.PrintMore Go.Proofs.YtcbhnhoicecnnaaDoor.Hand
attribute [local go_sem] max2_int min2_int max_two min_two max_three min_three max_four min_four
set_option linter.unusedVariables false
set_option linter.unusedSimpArgs false
def peaveylaw11_great.f (l0_0 : List (S24)) (l0_1 : List (S24)) (a0_2 : Int) (a0_3 : Int) (l0_4 : List (S24)) : Option (Bool) := if (l0_0.length : Int) > 10 then (some true) else (if (l0_1.length : Int) > 10 then (some true) else (some (decide ((l0_4.length : Int) > 60))))
set_option maxHeartbeats 8000000 in
set_option maxRecDepth 100000 in
theorem peaveylaw11_great.calls (A0_0 : Option Addr) (c0_0 : Nat) (l0_0 : List (S24)) (A0_1 : Option Addr) (c0_1 : Nat) (l0_1 : List (S24)) (a0_2 : Int) (a0_3 : Int) (A0_4 : Option Addr) (c0_4 : Nat) (l0_4 : List (S24)) (r : Bool) (w : World) (hr0_0 : Kd.C k24 w A0_0 l0_0.length l0_0) (hc0_0 : l0_0.length ≤ c0_0) (hr0_1 : Kd.C k24 w A0_1 l0_1.length l0_1) (hc0_1 : l0_1.length ≤ c0_1) (hr0_4 : Kd.C k24 w A0_4 l0_4.length l0_4) (hc0_4 : l0_4.length ≤ c0_4) (h : peaveylaw11_great.f l0_0 l0_1 a0_2 a0_3 l0_4 = some r) :
    Calls Tryd.prog 16 #[.agg #[.slice A0_0 l0_0.length c0_0, .slice A0_1 l0_1.length c0_1, .int .i64 a0_2, .int .i64 a0_3, .slice A0_4 l0_4.length c0_4]] w fun e w' => e = .returned (.bool r) ∧ Below w.heap.size w w' := by
  have hu26 := Tryd.underlying26
  have HR0_0 := Aside0.mk hr0_0
  have HC0_0 := Aside0.mk hc0_0
  clear hr0_0 hc0_0
  have HR0_1 := Aside0.mk hr0_1
  have HC0_1 := Aside0.mk hc0_1
  clear hr0_1 hc0_1
  have HR0_4 := Aside0.mk hr0_4
  have HC0_4 := Aside0.mk hc0_4
  clear hr0_4 hc0_4
  have HB := Aside0.mk (Below.refl w.heap.size w)
  have H : (if (l0_0.length : Int) > 10 then (some true) else (if (l0_1.length : Int) > 10 then (some true) else (some (decide ((l0_4.length : Int) > 60))))) = some r := h
  clear h
  by_cases c2 : (l0_0.length : Int) > 10
  · rw [if_pos c2] at H
    have c2b0 : decide (10 < (l0_0.length : Int)) = true := decide_eq_true c2
    have c2b1 : decide (10 < l0_0.length) = true := decide_eq_true (by omega)
    clear c2
    obtain rfl := Option.some.inj H
    go_enter Tryd.func16, Tryd.ntmps16
    go_wp2_with (first | ((with_reducible refine gate_dst (N := 1) rfl ?_); (try (refine gate_guard (by rfl) ?_; dsimp only)); refine box_event ?hg (N := 1) ?hd (cs := #[.slice A0_0 l0_0.length c0_0, .slice A0_1 l0_1.length c0_1, .int .i64 a0_2, .int .i64 a0_3, .slice A0_4 l0_4.length c0_4]) (t := 26) ?hr ?_; (case hd => rfl); (case hg => rfl); (case hr => first | (go_simp; done) | (go_simp; rfl)); intro gb228 hg w3 hbox hb; have n0_ := Aside0.mk (below_step (by repeat (first | (with_reducible first | exact HB.out | apply below_alloc | apply pw_below_drewN | apply below_drew1) | exact HB.out)) hb); have n1_ := Aside0.mk (hbox); have n2_ := Aside0.mk ((by rw [hg]; exact (below_size (by repeat (first | (with_reducible first | exact HB.out | apply below_alloc | apply pw_below_drewN | apply below_drew1) | exact HB.out))) : w.heap.size ≤ gb228)); have n3_ := Aside0.mk ((by rw [hg]; exact (below_size (by repeat (first | (with_reducible first | exact HB.out | apply below_alloc | apply pw_below_drewN | apply below_drew1) | exact HB.out))) : w.heap.size ≤ gb228)); clear HB; have HB := n0_; have BK228 := n1_; have GW228 := n2_; have GE228 := n3_; clear n0_ n1_ n2_ n3_; clear hb hbox hg; have hcz4_0 : w3.cell? ⟨gb228, 0, none⟩ = some (.slice A0_0 l0_0.length c0_0) := (blk_cell BK228.out 0).trans rfl; have hcz4_1 : w3.cell? ⟨gb228, 1, none⟩ = some (.slice A0_1 l0_1.length c0_1) := (blk_cell BK228.out 1).trans rfl; have hcz4_2 : w3.cell? ⟨gb228, 2, none⟩ = some (.int .i64 a0_2) := (blk_cell BK228.out 2).trans rfl; have hcz4_3 : w3.cell? ⟨gb228, 3, none⟩ = some (.int .i64 a0_3) := (blk_cell BK228.out 3).trans rfl; have hcz4_4 : w3.cell? ⟨gb228, 4, none⟩ = some (.slice A0_4 l0_4.length c0_4) := (blk_cell BK228.out 4).trans rfl; have hfz4_0 := blk_frozen BK228.out 0; have hfz4_1 := blk_frozen BK228.out 1; have hfz4_2 := blk_frozen BK228.out 2; have hfz4_3 := blk_frozen BK228.out 3; have hfz4_4 := blk_frozen BK228.out 4))
    go_ret
    exact ⟨by first | rfl | (simp [errW_none, errW_some] <;> rfl) | (simp [*, errW_none, errW_some] <;> rfl), by repeat (first | (with_reducible first | exact HB.out | apply below_alloc | apply pw_below_drewN | apply below_drew1 | refine below_set ?_ GE228.out) | exact HB.out)⟩
  · rw [if_neg c2] at H
    have c2b0 : decide (10 < (l0_0.length : Int)) = false := decide_eq_false c2
    have c2b1 : decide (10 < l0_0.length) = false := decide_eq_false (by omega)
    clear c2
    by_cases c5 : (l0_1.length : Int) > 10
    · rw [if_pos c5] at H
      have c5b0 : decide (10 < (l0_1.length : Int)) = true := decide_eq_true c5
      have c5b1 : decide (10 < l0_1.length) = true := decide_eq_true (by omega)
      clear c5
      obtain rfl := Option.some.inj H
      go_enter Tryd.func16, Tryd.ntmps16
      go_wp2_with (first | ((with_reducible refine gate_dst (N := 1) rfl ?_); (try (refine gate_guard (by rfl) ?_; dsimp only)); refine box_event ?hg (N := 1) ?hd (cs := #[.slice A0_0 l0_0.length c0_0, .slice A0_1 l0_1.length c0_1, .int .i64 a0_2, .int .i64 a0_3, .slice A0_4 l0_4.length c0_4]) (t := 26) ?hr ?_; (case hd => rfl); (case hg => rfl); (case hr => first | (go_simp; done) | (go_simp; rfl)); intro gb228 hg w6 hbox hb; have n0_ := Aside0.mk (below_step (by repeat (first | (with_reducible first | exact HB.out | apply below_alloc | apply pw_below_drewN | apply below_drew1) | exact HB.out)) hb); have n1_ := Aside0.mk (hbox); have n2_ := Aside0.mk ((by rw [hg]; exact (below_size (by repeat (first | (with_reducible first | exact HB.out | apply below_alloc | apply pw_below_drewN | apply below_drew1) | exact HB.out))) : w.heap.size ≤ gb228)); have n3_ := Aside0.mk ((by rw [hg]; exact (below_size (by repeat (first | (with_reducible first | exact HB.out | apply below_alloc | apply pw_below_drewN | apply below_drew1) | exact HB.out))) : w.heap.size ≤ gb228)); clear HB; have HB := n0_; have BK228 := n1_; have GW228 := n2_; have GE228 := n3_; clear n0_ n1_ n2_ n3_; clear hb hbox hg; have hcz7_0 : w6.cell? ⟨gb228, 0, none⟩ = some (.slice A0_0 l0_0.length c0_0) := (blk_cell BK228.out 0).trans rfl; have hcz7_1 : w6.cell? ⟨gb228, 1, none⟩ = some (.slice A0_1 l0_1.length c0_1) := (blk_cell BK228.out 1).trans rfl; have hcz7_2 : w6.cell? ⟨gb228, 2, none⟩ = some (.int .i64 a0_2) := (blk_cell BK228.out 2).trans rfl; have hcz7_3 : w6.cell? ⟨gb228, 3, none⟩ = some (.int .i64 a0_3) := (blk_cell BK228.out 3).trans rfl; have hcz7_4 : w6.cell? ⟨gb228, 4, none⟩ = some (.slice A0_4 l0_4.length c0_4) := (blk_cell BK228.out 4).trans rfl; have hfz7_0 := blk_frozen BK228.out 0; have hfz7_1 := blk_frozen BK228.out 1; have hfz7_2 := blk_frozen BK228.out 2; have hfz7_3 := blk_frozen BK228.out 3; have hfz7_4 := blk_frozen BK228.out 4))
      go_ret
      exact ⟨by first | rfl | (simp [errW_none, errW_some] <;> rfl) | (simp [*, errW_none, errW_some] <;> rfl), by repeat (first | (with_reducible first | exact HB.out | apply below_alloc | apply pw_below_drewN | apply below_drew1 | refine below_set ?_ GE228.out) | exact HB.out)⟩
    · rw [if_neg c5] at H
      have c5b0 : decide (10 < (l0_1.length : Int)) = false := decide_eq_false c5
      have c5b1 : decide (10 < l0_1.length) = false := decide_eq_false (by omega)
      clear c5
      obtain rfl := Option.some.inj H
      go_enter Tryd.func16, Tryd.ntmps16
      go_wp2_with (first | ((with_reducible refine gate_dst (N := 1) rfl ?_); (try (refine gate_guard (by rfl) ?_; dsimp only)); refine box_event ?hg (N := 1) ?hd (cs := #[.slice A0_0 l0_0.length c0_0, .slice A0_1 l0_1.length c0_1, .int .i64 a0_2, .int .i64 a0_3, .slice A0_4 l0_4.length c0_4]) (t := 26) ?hr ?_; (case hd => rfl); (case hg => rfl); (case hr => first | (go_simp; done) | (go_simp; rfl)); intro gb228 hg w8 hbox hb; have n0_ := Aside0.mk (below_step (by repeat (first | (with_reducible first | exact HB.out | apply below_alloc | apply pw_below_drewN | apply below_drew1) | exact HB.out)) hb); have n1_ := Aside0.mk (hbox); have n2_ := Aside0.mk ((by rw [hg]; exact (below_size (by repeat (first | (with_reducible first | exact HB.out | apply below_alloc | apply pw_below_drewN | apply below_drew1) | exact HB.out))) : w.heap.size ≤ gb228)); have n3_ := Aside0.mk ((by rw [hg]; exact (below_size (by repeat (first | (with_reducible first | exact HB.out | apply below_alloc | apply pw_below_drewN | apply below_drew1) | exact HB.out))) : w.heap.size ≤ gb228)); clear HB; have HB := n0_; have BK228 := n1_; have GW228 := n2_; have GE228 := n3_; clear n0_ n1_ n2_ n3_; clear hb hbox hg; have hcz9_0 : w8.cell? ⟨gb228, 0, none⟩ = some (.slice A0_0 l0_0.length c0_0) := (blk_cell BK228.out 0).trans rfl; have hcz9_1 : w8.cell? ⟨gb228, 1, none⟩ = some (.slice A0_1 l0_1.length c0_1) := (blk_cell BK228.out 1).trans rfl; have hcz9_2 : w8.cell? ⟨gb228, 2, none⟩ = some (.int .i64 a0_2) := (blk_cell BK228.out 2).trans rfl; have hcz9_3 : w8.cell? ⟨gb228, 3, none⟩ = some (.int .i64 a0_3) := (blk_cell BK228.out 3).trans rfl; have hcz9_4 : w8.cell? ⟨gb228, 4, none⟩ = some (.slice A0_4 l0_4.length c0_4) := (blk_cell BK228.out 4).trans rfl; have hfz9_0 := blk_frozen BK228.out 0; have hfz9_1 := blk_frozen BK228.out 1; have hfz9_2 := blk_frozen BK228.out 2; have hfz9_3 := blk_frozen BK228.out 3; have hfz9_4 := blk_frozen BK228.out 4))
      go_ret
      exact ⟨by first | rfl | (simp [errW_none, errW_some] <;> rfl) | (simp [*, errW_none, errW_some] <;> rfl), by repeat (first | (with_reducible first | exact HB.out | apply below_alloc | apply pw_below_drewN | apply below_drew1 | refine below_set ?_ GE228.out) | exact HB.out)⟩
end Go.Proofs.YtcbhnhoicecnnaaDoor.PrK
namespace Go.Proofs.YtcbhnhoicecnnaaDoor.Hand
set_option linter.unusedVariables false
set_option linter.unusedSimpArgs false
open Go.RowKit Go.Shelf Go.Maps Go.Proofs.YtcbhnhoicecnnaaDoorW.PrintWords Go.Proofs.YtcbhnhoicecnnaaDoorW.PrintLast Go.Proofs.YtcbhnhoicecnnaaDoorW.PrintMore Go.Proofs.YtcbhnhoicecnnaaDoor.PrK
def greatS (s : ShM) : Prop := 10 < s.l0.length ∨ 10 < s.l1.length ∨ 60 < s.l4.length
theorem great_any (s : ShM) (w : World) (h : ShR w s) (r : Bool) (hr : r = true ↔ greatS s) :
    Calls Tryd.prog 16 #[.agg #[.slice s.A0 s.l0.length s.c0, .slice s.A1 s.l1.length s.c1, .int .i64 s.a2, .int .i64 s.a3, .slice s.A4 s.l4.length s.c4]] w fun e w' => e = .returned (.bool r) ∧ Below w.heap.size w w' := by
  refine peaveylaw11_great.calls s.A0 s.c0 s.l0 s.A1 s.c1 s.l1 s.a2 s.a3 s.A4 s.c4 s.l4 r w h.r0 h.h0 h.r1 h.h1 h.r4 h.h4 ?_
  unfold peaveylaw11_great.f
  unfold greatS at hr
  cases r
  · have hn : ¬ (10 < s.l0.length ∨ 10 < s.l1.length ∨ 60 < s.l4.length) := fun h => by simpa using hr.2 h
    rw [if_neg (by omega), if_neg (by omega), show decide ((s.l4.length : Int) > 60) = false from by simp; omega]
  · have hp := hr.1 rfl
    by_cases h0 : (s.l0.length : Int) > 10
    · rw [if_pos h0]
    by_cases h1 : (s.l1.length : Int) > 10
    · rw [if_neg h0, if_pos h1]
    rw [if_neg h0, if_neg h1, show decide ((s.l4.length : Int) > 60) = true from by simp; omega]
end Go.Proofs.YtcbhnhoicecnnaaDoor.Hand
namespace Go.Proofs.YtcbhnhoicecnnaaDoor.Hand
set_option linter.unusedVariables false
set_option linter.unusedSimpArgs false
open Go.RowKit Go.Shelf Go.Maps Go.Proofs.YtcbhnhoicecnnaaDoorW.PrintWords Go.Proofs.YtcbhnhoicecnnaaDoorW.PrintLast Go.Proofs.YtcbhnhoicecnnaaDoorW.PrintMore Go.Proofs.YtcbhnhoicecnnaaDoor.PrK
theorem weights_both (s : ShM) (A : Option Addr) (c : Nat) (l : List Int) (hlc : l.length ≤ c) (h4 : s.l4.length ≤ 60) (h25 : l.length ≤ 25) : ∃ n er : Int, ∀ w, ShR w s → Kd.C (Kd.int .i64) w A l.length l →
    Calls Tryd.prog 22 #[.agg #[.slice s.A0 s.l0.length s.c0, .slice s.A1 s.l1.length s.c1, .int .i64 s.a2, .int .i64 s.a3, .slice s.A4 s.l4.length s.c4], .slice A l.length c] w (fun e w' => e = .returned (.tuple #[.int .i64 n, .int .i64 er]) ∧ Below w.heap.size w w') ∧
    Calls Tryd.prog 23 #[.agg #[.slice s.A0 s.l0.length s.c0, .slice s.A1 s.l1.length s.c1, .int .i64 s.a2, .int .i64 s.a3, .slice s.A4 s.l4.length s.c4], .slice A l.length c] w (fun e w' => e = .returned (.tuple #[.int .i64 n, .int .i64 er]) ∧ Below w.heap.size w w') := by
  have hc : ∀ n er w, peaveyref11_CheckWeights.f 400 s.l0 s.l1 s.a2 s.a3 s.l4 l = some (n, er) → ShR w s → Kd.C (Kd.int .i64) w A l.length l → Calls Tryd.prog 23 #[.agg #[.slice s.A0 s.l0.length s.c0, .slice s.A1 s.l1.length s.c1, .int .i64 s.a2, .int .i64 s.a3, .slice s.A4 s.l4.length s.c4], .slice A l.length c] w (fun e w' => e = .returned (.tuple #[.int .i64 n, .int .i64 er]) ∧ Below w.heap.size w w') := fun n er w hf h hr =>
    peaveyref11_CheckWeights.calls 400 s.A0 s.c0 s.l0 s.A1 s.c1 s.l1 s.a2 s.a3 s.A4 s.c4 s.l4 A c l n er w h.r0 h.h0 h.r1 h.h1 h.r4 h.h4 hr hlc hf
  by_cases hS : s.Ok
  · by_cases hl : l.length = s.l0.length + s.l1.length + 1
    · by_cases hin : InW3 l
      · exact ⟨boundS s.sh (wsW s.l0.length s.l1.length l), 0, fun w h hr => ⟨weightsT_any s A c l w h hS hr hlc hl _ _ (.inl ⟨hin, rfl, rfl⟩), hc _ _ w (refWeights_any s hS l hl (by omega) _ _ (.inl ⟨hin, rfl, rfl⟩)) h hr⟩⟩
      · exact ⟨0, 3, fun w h hr => ⟨weightsT_any s A c l w h hS hr hlc hl _ _ (.inr ⟨hin, rfl, rfl⟩), hc _ _ w (refWeights_any s hS l hl (by omega) _ _ (.inr ⟨hin, rfl, rfl⟩)) h hr⟩⟩
    · exact ⟨0, 15, fun w h hr => ⟨weightsT_len s A c l w h hS hl (by omega), hc _ _ w (refWeights_len s hS l hl (by omega)) h hr⟩⟩
  · have hne : ¬ csE s = 0 := fun e => hS ((csE_ok s).1 e)
    exact ⟨0, csE s, fun w h hr => ⟨weightsT_bad s A c l w h _ rfl hne, hc _ _ w (refWeights_bad s l h4 hne (by omega)) h hr⟩⟩
set_option maxHeartbeats 4000000 in
set_option maxRecDepth 100000 in
theorem weightsL_any (s : ShM) (A : Option Addr) (c : Nat) (l : List Int) (w : World) (hv : VarsAt w) (h : ShR w s) (hl : Kd.C (Kd.int .i64) w A l.length l) (hlc : l.length ≤ c) :
    Calls Tryd.prog 4 #[.agg #[.slice s.A0 s.l0.length s.c0, .slice s.A1 s.l1.length s.c1, .int .i64 s.a2, .int .i64 s.a3, .slice s.A4 s.l4.length s.c4], .slice A l.length c] w fun e w' => e = .returned (.bool true) ∧ Below w.heap.size w w' := by
  obtain ⟨W, hW⟩ : ∃ W, W = w.alloc (.cells #[.slice s.A0 s.l0.length s.c0, .slice s.A1 s.l1.length s.c1, .int .i64 s.a2, .int .i64 s.a3, .slice s.A4 s.l4.length s.c4] 26) := ⟨_, rfl⟩
  have hb : Below w.heap.size w W := by rw [hW]; exact (Below.refl _ _).alloc (Nat.le_refl _) _
  obtain ⟨b, hbe⟩ : ∃ b, b = w.heap.size := ⟨_, rfl⟩
  have hX : BoxS W b s := by rw [hW, hbe]; exact box_new w s
  have HX := Lib.hid (And.intro hb hX)
  have HG : Hid (∀ V, Below w.heap.size w V → ∀ r : Bool, (r = true ↔ greatS s) → Calls Tryd.prog 16 #[.agg #[.slice s.A0 s.l0.length s.c0, .slice s.A1 s.l1.length s.c1, .int .i64 s.a2, .int .i64 s.a3, .slice s.A4 s.l4.length s.c4]] V fun e w' => e = .returned (.bool r) ∧ Below V.heap.size V w') := Lib.hid fun V hV => great_any s V (h.below hV)
  have HW : Hid (∀ V, Below w.heap.size w V → Calls Tryd.prog 17 #[] V fun e w' => e = .returned (.bool true) ∧ Below V.heap.size V w') := Lib.hid fun V hV => works_any V (hv.below hV)
  have HL := Lib.hid hlc
  have HR : Hid (∀ V, Below w.heap.size w V → ShR V s ∧ Kd.C (Kd.int .i64) V A l.length l) := Lib.hid fun V hV => ⟨h.below hV, Kd.C_below hl hV⟩
  clear hX hb h hl hlc hv
  go_enter Tryd.func4, Tryd.ntmps4
  go_upto_region 1 with fail
  rw [← hW, ← hbe]
  clear hW hbe
  have hX := HX.out.2
  have x0 := hX.c0
  have x1 := hX.c1
  have x2 := hX.c2
  have x3 := hX.c3
  have x4 := hX.c4
  clear hX
  by_cases hg : greatS s
  · go_upto_region 2 with (go_at_call 16; refine (HG.out _ HX.out.1 true ⟨fun _ => hg, fun _ => rfl⟩).mono ?_; rintro e v1 ⟨rfl, h1⟩; have Hv1 := Lib.hid (HX.out.1.trans (h1.mono HX.out.1.size)); clear h1)
    clear x0 x1 x2 x3 x4
    go_wp2_with (go_at_call 17; refine (HW.out _ Hv1.out).mono ?_; rintro e v2 ⟨rfl, h1⟩; have Hv2 := Lib.hid (Hv1.out.trans (h1.mono Hv1.out.size)); clear h1)
    refine bodyPost_ret (results_tmp (t := 4) rfl _ _ _) rfl ?_
    exact ⟨rfl, Hv2.out⟩
  by_cases h25 : 25 < l.length
  · have g25 : ((l.length : Int) > 25) := by omega
    go_upto_region 2 with (go_at_call 16; refine (HG.out _ HX.out.1 false ⟨fun h => by simp at h, fun h => absurd h hg⟩).mono ?_; rintro e v1 ⟨rfl, h1⟩; have Hv1 := Lib.hid (HX.out.1.trans (h1.mono HX.out.1.size)); clear h1)
    clear x0 x1 x2 x3 x4
    go_wp2_with (go_at_call 17; refine (HW.out _ Hv1.out).mono ?_; rintro e v2 ⟨rfl, h1⟩; have Hv2 := Lib.hid (Hv1.out.trans (h1.mono Hv1.out.size)); clear h1)
    refine bodyPost_ret (results_tmp (t := 4) rfl _ _ _) rfl ?_
    exact ⟨rfl, Hv2.out⟩
  have g25 : ¬ ((l.length : Int) > 25) := by omega
  have h4 : s.l4.length ≤ 60 := by unfold greatS at hg; omega
  obtain ⟨n, er, hB⟩ := weights_both s A c l HL.out h4 (by omega)
  have HB : Hid (∀ w, ShR w s → Kd.C (Kd.int .i64) w A l.length l →
    Calls Tryd.prog 22 #[.agg #[.slice s.A0 s.l0.length s.c0, .slice s.A1 s.l1.length s.c1, .int .i64 s.a2, .int .i64 s.a3, .slice s.A4 s.l4.length s.c4], .slice A l.length c] w (fun e w' => e = .returned (.tuple #[.int .i64 n, .int .i64 er]) ∧ Below w.heap.size w w') ∧
    Calls Tryd.prog 23 #[.agg #[.slice s.A0 s.l0.length s.c0, .slice s.A1 s.l1.length s.c1, .int .i64 s.a2, .int .i64 s.a3, .slice s.A4 s.l4.length s.c4], .slice A l.length c] w (fun e w' => e = .returned (.tuple #[.int .i64 n, .int .i64 er]) ∧ Below w.heap.size w w')) := Lib.hid hB
  clear hB h4 h25
  go_upto_region 3 with (go_at_call 16; refine (HG.out _ HX.out.1 false ⟨fun h => by simp at h, fun h => absurd h hg⟩).mono ?_; rintro e v1 ⟨rfl, h1⟩; have Hv1 := Lib.hid h1; clear h1)
  clear x0 x1 x2 x3 x4
  replace HX := Lib.hid (And.intro (HX.out.1.trans (Hv1.out.mono HX.out.1.size)) (HX.out.2.below Hv1.out))
  have x0 := HX.out.2.c0
  have x1 := HX.out.2.c1
  have x2 := HX.out.2.c2
  have x3 := HX.out.2.c3
  have x4 := HX.out.2.c4
  go_upto_region 4 with (go_at_call 22; refine (HB.out _ (HR.out _ HX.out.1).1 (HR.out _ HX.out.1).2).1.mono ?_; rintro e v3 ⟨rfl, h1⟩; have Hv3 := Lib.hid h1; clear h1)
  clear x0 x1 x2 x3 x4
  replace HX := Lib.hid (And.intro (HX.out.1.trans (Hv3.out.mono HX.out.1.size)) (HX.out.2.below Hv3.out))
  have x0 := HX.out.2.c0
  have x1 := HX.out.2.c1
  have x2 := HX.out.2.c2
  have x3 := HX.out.2.c3
  have x4 := HX.out.2.c4
  go_upto_region 5 with (go_at_call 23; refine (HB.out _ (HR.out _ HX.out.1).1 (HR.out _ HX.out.1).2).2.mono ?_; rintro e v4 ⟨rfl, h1⟩; have Hv4 := Lib.hid h1; clear h1)
  clear x0 x1 x2 x3 x4
  replace HX := Lib.hid (HX.out.1.trans (Hv4.out.mono HX.out.1.size))
  go_wp2_with (go_at_call 17; refine (HW.out _ HX.out).mono ?_; rintro e v5 ⟨rfl, h1⟩; have Hv5 := Lib.hid (HX.out.trans (h1.mono HX.out.size)); clear h1)
  refine bodyPost_ret (results_tmp (t := 4) rfl _ _ _) rfl ?_
  exact ⟨rfl, Hv5.out⟩
end Go.Proofs.YtcbhnhoicecnnaaDoor.Hand
namespace Go.Proofs.YtcbhnhoicecnnaaDoor.tallyWeights
open Go.ChangeShapes Go.WideShapes Go.ChangeAt Go.RowKit Go.Deep Go.Proofs.YtcbhnhoicecnnaaDoorW.PrintWords Go.Proofs.YtcbhnhoicecnnaaDoor.Hand
set_option linter.unusedVariables false
set_option linter.unusedSimpArgs false
set_option maxRecDepth 100000
theorem lifted (os : Os) (started : os.Started) (H : Type) (enc : TypeId × Value → H) :
    ReturnsInHanded {} Tryd.checked os 4 .any (fun w args => (Rows.tallyWeightsSpec.pre enc Tryd.prog Tryd.f4 [] false w args ∧ laidMetH Tryd.prog laidD w) ∧ sizedMet enc Tryd.prog Tryd.f4 (OpenSpec.ofChange Rows.tallyWeightsSpec) false w args)
      (Rows.tallyWeightsSpec.post enc Tryd.prog Tryd.f4 false true false false) := by
  refine returnsInHanded_of_change_and (C := Tryd.checked) (X := fun w _ => laidMetH Tryd.prog laidD w) (fun _ _ _ hh h => h.of_heap hh) ownD started (by kernel_rfl) Tryd.func4
    (ChangeSpec.witness_shaped (enc := enc) (C := Tryd.checked) (os := os) (X := fun w _ => laidMetH Tryd.prog laidD w) false (World.doorLaid Tryd.prog 400 os) #[.agg #[.slice none 0 0, .slice none 0 0, .int .i64 0, .int .i64 0, .slice none 0 0], .slice none 0 0] 8 rfl (World.shaped_of_RefB (by kernel_rfl) (by kernel_rfl)) (by kernel_rfl) (by kernel_rfl) (by kernel_rfl) (door_metD os _)) ?_
  intro W base args ds gs before hval0 hW _ _ hL _
  have hval : ∀ (j : Nat) t v, Tryd.f4.params[j]? = some t → args[j]? = some v → Value.okWide Tryd.prog W .any base t v := hval0
  have hW' := hW
  obtain ⟨p, q, hA0, hV, rfl, hfz, hnd⟩ := hW
  have hA : DataW.TrodAll enc Tryd.prog W 0 (fun _ => true) true Tryd.f4.params.toList args.toList ds p := hA0
  rw [Tryd.params4] at hA hval
  obtain ⟨v0, vs0, d0, ds0, p0, q0, hargs, rfl, rfl, h0, r0⟩ := trodAll_cons hA
  obtain ⟨v1, vs1, d1, ds1, p1, q1, rfl, rfl, rfl, h1, r1⟩ := trodAll_cons r0
  obtain ⟨rfl, rfl, rfl⟩ := trodAll_nil r1
  obtain rfl : args = #[v0, v1] := by cases args; simp_all
  obtain ⟨rfl, rfl⟩ := trodVars_none hV
  have hvars := vars_of hL
  obtain ⟨cs0, rfl⟩ : ∃ cs, v0 = .agg cs := by have h := (hval 0 26 v0 rfl rfl); unfold Value.okWide at h; simp only [Tryd.underlying26] at h; obtain ⟨cs, h1, _⟩ := h; exact ⟨cs, h1⟩
  have k0 := h0
  have lt0 : ∀ x ∈ p0, x.block < W.heap.size := by obtain ⟨m, hm⟩ := k0; exact DataW.trod_lt m _ _ _ hm
  obtain ⟨fuel0, hf0⟩ := h0
  obtain ⟨s0, e0, g0⟩ := open_sheet hf0
  obtain rfl : cs0 = #[.slice s0.A0 s0.l0.length s0.c0, .slice s0.A1 s0.l1.length s0.c1, .int .i64 s0.a2, .int .i64 s0.a3, .slice s0.A4 s0.l4.length s0.c4] := by cases cs0; simp only [Value.cells] at e0; rw [e0]; rfl
  obtain ⟨A1, n1, c1, rfl⟩ := okWide_slice Tryd.underlying35 (hval 1 35 v1 rfl rfl)
  have k1 := h1
  have lt1 : ∀ x ∈ p1, x.block < W.heap.size := by obtain ⟨m, hm⟩ := k1; exact DataW.trod_lt m _ _ _ hm
  obtain ⟨fuel1, hf1⟩ := h1
  obtain ⟨A1', c1', l1, e1, g1, gl1, gw1⟩ := open_sint hf1
  simp only [Value.cells, List.cons.injEq, Value.slice.injEq, and_true] at e1
  obtain ⟨rfl, rfl, rfl⟩ := e1
  clear hA0 hval0
  refine (Hand.weightsL_any s0 A1 c1 l1 W hvars g0 g1 gl1).mono fun e W' ⟨he, bel⟩ => ?_
  subst he
  exact ⟨_, rfl, _, _, _, [], _, [], hW', trodAll_mk1 (shut_bool Tryd.underlying4 _), (trodAll_cons_mk (Below.trod laidOutD (by kernel_rfl) (of_decide_eq_true (by kernel_rfl)) k0 bel lt0) (trodAll_cons_mk (Below.trod laidOutD (by kernel_rfl) (of_decide_eq_true (by kernel_rfl)) k1 bel lt1) trodAll_mk0)), rfl, bel.frame _, fun h => by cases h⟩
theorem row_holds : Rows.TallyWeightsSaid :=
  OpenClaim.holds_of_wide 4 Tryd.f4 rfl rfl rfl rfl rfl rfl rfl ⟨rfl, rfl, rfl, rfl, rfl⟩ rfl rfl rfl rfl rfl (by kernel_rfl) Tryd.func4 (by kernel_rfl)
    (of_decide_eq_true (by kernel_rfl)) (by unfold Func.isWrapper; first | (rw [if_pos (by decide +kernel)]; kernel_rfl) | (rw [if_neg (by decide +kernel)]; exact ⟨rfl, rfl⟩))
    (fun os started H enc _ => lifted os started H enc)
theorem proved : Rows.TallyWeightsCardSaid :=
  Claim7.holds_tied_plain_at .later [] [.data, .data] true (true, "5e491ff97e15d9dbeef380c8e43fae43eecb164c938dba20fa664fd619ea33c3") false
    row_holds (fun _ h => by cases h) (by kernel_rfl) (fun _ h => by cases h) tallyWeights_row_tie rfl ⟨rfl, rfl⟩ (by kernel_rfl) rfl
    (fun f fn hf hfn => by
      obtain rfl : f = 4 := Option.some.inj ((show Tryd.prog.funcNamed "peavey/peaveylaw11.TallyWeights" = some 4 by kernel_rfl).symm.trans hf) |>.symm
      obtain rfl : fn = Tryd.f4 := (Option.some.inj (Tryd.func4.symm.trans hfn)).symm
      exact ⟨by kernel_rfl, fun j t ht => by
        rw [Tryd.params4] at ht
        exact match j, ht with
          | 0, ht => (Option.some.inj ht) ▸ (show Tryd.prog.wantsStandIn 26 = false by kernel_rfl)
          | 1, ht => (Option.some.inj ht) ▸ (show Tryd.prog.wantsStandIn 35 = false by kernel_rfl)
          | _ + 2, ht => by simp at ht⟩)
    (by kernel_rfl)
end Go.Proofs.YtcbhnhoicecnnaaDoor.tallyWeights
namespace Go.Proofs.YtcbhnhoicecnnaaDoor
theorem tallyWeightsCard_holds : Rows.TallyWeightsCardSaid := tallyWeights.proved
end Go.Proofs.YtcbhnhoicecnnaaDoor
