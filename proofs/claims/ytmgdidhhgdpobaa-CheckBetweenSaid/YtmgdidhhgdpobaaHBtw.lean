/- CheckBetween's function: its walk. -/
import Derived.Test.YtmgdidhhgdpobaaHLess
import Derived.Test.YtmgdidhhgdpobaaHLike
import Derived.Test.YtmgdidhhgdpobaaHBets
import Derived.Test.YtmgdidhhgdpobaaHD
import Derived.Test.YtmgdidhhgdpobaaHWorks
import Derived.Deep.DeepCutAuto
import Derived.Deep.RegionHeld3
namespace Go.Proofs.Ytmgdidhhgdpobaa.Hand
set_option linter.unusedVariables false
set_option linter.unusedSimpArgs false
open Go.RowKit Go.Maps Go.Proofs.YtmgdidhhgdpobaaW.PrintWords Go.Proofs.YtmgdidhhgdpobaaW.PrintLast Go.Proofs.YtmgdidhhgdpobaaW.PrintMore Go.Proofs.Ytmgdidhhgdpobaa.PrA Go.Proofs.Ytmgdidhhgdpobaa.PrC Go.Proofs.Ytmgdidhhgdpobaa.PrD Go.Proofs.Ytmgdidhhgdpobaa.PrR Go.Proofs.Ytmgdidhhgdpobaa.PrV

section
variable {P : Program} {md : Region.Mode} {Q : Exit → Act → World → Prop} {S : World → Prop}
theorem step_arms {l : List Oper} {rs : List Nat} {fuel : Nat} {listed : Array Bool} {a : Act} {w : World} (hr : Region.ready md l.toArray listed = rs) (hne : rs ≠ [])
    (h : ∀ i, i ∈ rs → ∃ o, l[i]? = some o ∧ Region.wanted o (yielded l.toArray a.tmps) = true ∧ ∀ K : Act → World → Prop, (∀ a w, S w → wpAnyH P md l.toArray Q S fuel (listed.setIfInBounds i true) a w → K a w) → Oper.wp P o a w K Q) : wpAnyH P md l.toArray Q S (fuel + 1) listed a w := by
  refine wpAnyH_all hr hne fun i hi => ?_
  obtain ⟨o, h1, h2, h3⟩ := h i hi
  unfold wpOp
  have : l.toArray[i]? = some o := by simpa using h1
  simp only [this, h2, if_true]
  exact .inl (h3 _ fun a w hS hh => ⟨hS, hh⟩)
end
/-- a block of a range -/
def TwoR (w : World) (b x y : Nat) : Prop := w.heap[b]? = some (.cells #[.int .i64 x, .int .i64 y] 39 (0, 0))
theorem twoR_cell {w : World} {b x y : Nat} (h : TwoR w b x y) : w.cell? ⟨b, 0, none⟩ = some (.int .i64 x) ∧ w.cell? ⟨b, 1, none⟩ = some (.int .i64 y) := by
  unfold TwoR at h
  simp [World.cell?, h]
theorem twoR_step {w w' : World} {b x y : Nat} (h : TwoR w b x y) (hb : Below w.heap.size w w') : TwoR w' b x y := by
  have hn := cell_size (twoR_cell h).1
  unfold TwoR at *; rw [hb.block b hn]; exact h
theorem two_step {w w' : World} {b x y : Nat} (h : Two w b x y) (hb : Below w.heap.size w w') : Two w' b x y := two_below h hb (cell_size (two_cell h).1)
theorem two_size {w : World} {b x y : Nat} (h : Two w b x y) : b < w.heap.size := cell_size (two_cell h).1

set_option maxHeartbeats 16000000 in
set_option maxRecDepth 100000 in
theorem btw_any (x0 x1 x2 n0 n1 d0 d1 x5 : Int) (a w s f r1 q1 r2 q2 : Nat) (W : World) (hb : peaveylaw10_boom.f x0 x5 x1 x2 = some ((a : Int), (w : Int), (s : Int), (f : Int)))
    (lo1 hi1 lo2 hi2 k : Nat) (b : Bool) (ha : a ≤ 50) (hw : w ≤ a) (hs : s ≤ a) (hf : f ≤ s) (hq1 : 2 * r1 < q1) (hq1' : q1 ≤ 1000) (hq2 : 2 * r2 < q2) (hq2' : q2 ≤ 1000)
    (hB1 : check_Between.f a s f r1 q1 = some ((lo1 : Int), (hi1 : Int), 0)) (hB2 : check_Between.f a s f r2 q2 = some ((lo2 : Int), (hi2 : Int), 0)) (hL : check_Likely.f a s f = some ((k : Int), 0))
    (m1 : lo1 ≤ hi1) (m2 : hi1 ≤ a) (m3 : k ≤ a) (m4 : 10 * r1 ≤ q1 → lo1 ≤ k ∧ k ≤ hi1) (hless : peaveylaw10_less.f r2 q2 r1 q1 = some b) (m5 : b = true → lo2 ≤ lo1 ∧ hi1 ≤ hi2)
    (U J C D E K : Nat) (hU : check_AtMost.f a w s f = some ((U : Int), 0)) (hJ : check_Samples.f a w s f = some ((J : Int), 0)) (hC : check_Choose.f a s = some ((C : Int), 0))
    (hC' : peaveyref10_Choices.f K a s = some (C : Int)) (hU' : peaveyref10_UpTo.f K a w s f = some (U : Int)) (hJ' : peaveyref10_Just.f K a w s f = some (J : Int)) (hD : (C : Int) - U = D) (hE : (D : Int) + J = E) (hEb : E ≤ 1125899906842624)
    (m6 : rareB U C r1 q1 = decide (hi1 < w)) (m7 : rareB E C r1 q1 = decide (w < lo1))
    (hr1 : peaveylaw10_Risk.f n0 d0 = some ((r1 : Int), (q1 : Int))) (hr2 : peaveylaw10_Risk.f n1 d1 = some ((r2 : Int), (q2 : Int))) :
    Calls Try.prog 12 #[.int .u8 x0, .int .u8 x1, .int .u8 x2, .agg #[.int .u16 n0, .int .u16 n1], .agg #[.int .u16 d0, .int .u16 d1], .int .u8 x5] W fun e W' => e = .returned (.bool true) ∧ Below W.heap.size W W' := by
  have HBO := Lib.hid (fun X => peaveylaw10_boom.calls x0 x5 x1 x2 a w s f X hb)
  have HR1 := Lib.hid (fun X => peaveylaw10_Risk.calls n0 d0 r1 q1 X hr1)
  have HR2 := Lib.hid (fun X => peaveylaw10_Risk.calls n1 d1 r2 q2 X hr2)
  have HB1 := Lib.hid (fun X => check_Between.calls a s f r1 q1 lo1 hi1 0 X hB1)
  have HB2 := Lib.hid (fun X => check_Between.calls a s f r2 q2 lo2 hi2 0 X hB2)
  have HLK := Lib.hid (fun X => check_Likely.calls a s f k 0 X hL)
  have HLE := Lib.hid (fun X => peaveylaw10_less.calls r2 q2 r1 q1 b X hless)
  have HAM := Lib.hid (fun X => check_AtMost.calls a w s f U 0 X hU)
  have HSA := Lib.hid (fun X => check_Samples.calls a w s f J 0 X hJ)
  have HCH := Lib.hid (fun X => check_Choose.calls a s C 0 X hC)
  have HRC := Lib.hid (fun X => peaveyref10_Choices.calls K a s C X hC')
  have HRU := Lib.hid (fun X => peaveyref10_UpTo.calls K a w s f U X hU')
  have HRJ := Lib.hid (fun X => peaveyref10_Just.calls K a w s f J X hJ')
  have HRA := Lib.hid (fun X => peaveyref10_Rare.calls U C r1 q1 (decide (hi1 < w)) X (by rw [rare_ref, m6]))
  have HRB := Lib.hid (fun X => peaveyref10_Rare.calls E C r1 q1 (decide (w < lo1)) X (by rw [rare_ref, m7]))
  have hs1 : IntKind.i64.wrap ((C : Int) - (U : Int)) = (D : Int) := by rw [hD]; exact IntWalk.i64_in _ (by omega)
  have hs2 : IntKind.i64.wrap ((D : Int) + (J : Int)) = (E : Int) := by rw [hE]; exact IntWalk.i64_in _ (by omega)
  have HS1 := Lib.hid (And.intro hs1 hs2)
  clear hb hr1 hr2 hB1 hB2 hL hless hU hJ hC hC' hU' hJ' hD hE hEb m6 m7 hs1 hs2
  go_enter Try.func12, Try.ntmps12
  go_wp2_with fail
  refine (HBO.out _).mono ?_
  rintro e w1 ⟨rfl, ⟨nd, rfl⟩⟩
  go_upto_region 2 with (fail)
  obtain ⟨W1, hW1⟩ : ∃ X, X = ((W.alloc (.cells #[.int .u16 n0, .int .u16 n1] 68)).alloc (.cells #[.int .u16 d0, .int .u16 d1] 68)).drewN nd := ⟨_, rfl⟩
  have c1 : W1.cell? ⟨W.heap.size, 0, none⟩ = some (.int .u16 n0) := by rw [hW1]; simp
  have c2 : W1.cell? ⟨W.heap.size, 1, none⟩ = some (.int .u16 n1) := by rw [hW1]; simp
  have c3 : W1.cell? ⟨W.heap.size + 1, 0, none⟩ = some (.int .u16 d0) := by rw [hW1]; simp
  have c4 : W1.cell? ⟨W.heap.size + 1, 1, none⟩ = some (.int .u16 d1) := by rw [hW1]; simp
  have hbl : Below W.heap.size W W1 := by rw [hW1]; exact below_drewN (((Below.refl _ _).alloc (Nat.le_refl _) _).alloc (by simp) _) _
  have c5 : W.heap.size + 1 < W1.heap.size := by rw [hW1]; simp
  rw [← hW1]
  clear hW1
  have HBL := Lib.hid hbl
  clear hbl
  go_cut [17, 18] (fun v17 v18 wc => ∃ g1 g2 : Nat, v17 = .pointer (some ⟨g1, 0, none⟩) ∧ v18 = .pointer (some ⟨g2, 0, none⟩) ∧ Hid (Two wc g1 r1 q1) ∧ Hid (Two wc g2 r2 q2) ∧ Hid (g1 ≠ g2) ∧ Hid (W.heap.size ≤ g1) ∧ Hid (W.heap.size ≤ g2) ∧ Hid (Below W.heap.size W wc))
  case first =>
    have hS : Below W1.heap.size W1 W1.drew := (Below.refl _ _).drew
    refine wp_region_held_list (k := 14) rfl (fun w' => Below W1.heap.size W1 w') (by kernel_rfl) ?_
    generalize W1.drew = w0 at hS ⊢
    refine take_list (i := 0) (v := .pointer (some ⟨W.heap.size, 0, none⟩)) rfl (by kernel_rfl) (by kernel_rfl) (by kernel_rfl) (fun _ _ _ h => h) (by rfl) (by intro w' hw'; go_simp) hS ?_
    simp only [Act.put, List.setIfInBounds_toArray, List.set_cons_zero, List.set_cons_succ]
    refine take_list (i := 1) (v := .int .u16 n0) rfl (by kernel_rfl) (by kernel_rfl) (by kernel_rfl) (fun _ _ _ h => h) (by rfl) (by intro w' hw'; have q0 := held_now hw' c1; go_simp) hS ?_
    simp only [Act.put, List.setIfInBounds_toArray, List.set_cons_zero, List.set_cons_succ]
    refine take_list (i := 2) (v := .pointer (some ⟨W.heap.size + 1, 0, none⟩)) rfl (by kernel_rfl) (by kernel_rfl) (by kernel_rfl) (fun _ _ _ h => h) (by rfl) (by intro w' hw'; go_simp) hS ?_
    simp only [Act.put, List.setIfInBounds_toArray, List.set_cons_zero, List.set_cons_succ]
    refine take_list (i := 3) (v := .int .u16 d0) rfl (by kernel_rfl) (by kernel_rfl) (by kernel_rfl) (fun _ _ _ h => h) (by rfl) (by intro w' hw'; have q0 := held_now hw' c3; go_simp) hS ?_
    simp only [Act.put, List.setIfInBounds_toArray, List.set_cons_zero, List.set_cons_succ]
    refine take_list (i := 5) (v := .pointer (some ⟨W.heap.size, 1, none⟩)) rfl (by kernel_rfl) (by kernel_rfl) (by kernel_rfl) (fun _ _ _ h => h) (by rfl) (by intro w' hw'; go_simp) hS ?_
    simp only [Act.put, List.setIfInBounds_toArray, List.set_cons_zero, List.set_cons_succ]
    refine take_list (i := 6) (v := .int .u16 n1) rfl (by kernel_rfl) (by kernel_rfl) (by kernel_rfl) (fun _ _ _ h => h) (by rfl) (by intro w' hw'; have q0 := held_now hw' c2; go_simp) hS ?_
    simp only [Act.put, List.setIfInBounds_toArray, List.set_cons_zero, List.set_cons_succ]
    refine take_list (i := 7) (v := .pointer (some ⟨W.heap.size + 1, 1, none⟩)) rfl (by kernel_rfl) (by kernel_rfl) (by kernel_rfl) (fun _ _ _ h => h) (by rfl) (by intro w' hw'; go_simp) hS ?_
    simp only [Act.put, List.setIfInBounds_toArray, List.set_cons_zero, List.set_cons_succ]
    refine take_list (i := 8) (v := .int .u16 d1) rfl (by kernel_rfl) (by kernel_rfl) (by kernel_rfl) (fun _ _ _ h => h) (by rfl) (by intro w' hw'; have q0 := held_now hw' c4; go_simp) hS ?_
    simp only [Act.put, List.setIfInBounds_toArray, List.set_cons_zero, List.set_cons_succ]
    have HS := Lib.hid hS
    clear hS c1 c2 c3 c4 c5
    refine step_arms (rs := [4, 10, 11]) (by kernel_rfl) (by simp) ?_
    intro i hi
    simp only [List.mem_cons, List.not_mem_nil, or_false] at hi
    rcases hi with rfl | rfl | rfl
    · refine ⟨_, rfl, by rfl, fun K hK => ?_⟩
      go_simp
      refine (HR1.out _).mono ?_
      rintro e w1 ⟨rfl, hb⟩
      have HS := Lib.hid (HS.out.trans (hb.mono HS.out.size))
      clear hb
      refine hK _ _ HS.out ?_
      clear hK K
      (try simp only [Act.put, List.setIfInBounds_toArray, List.set_cons_zero, List.set_cons_succ])
      refine step_arms (rs := [9, 10, 11]) (by kernel_rfl) (by simp) ?_
      intro i hi
      simp only [List.mem_cons, List.not_mem_nil, or_false] at hi
      rcases hi with rfl | rfl | rfl
      · refine ⟨_, rfl, by rfl, fun K hK => ?_⟩
        go_simp
        refine (HR2.out _).mono ?_
        rintro e w2 ⟨rfl, hb⟩
        have HS := Lib.hid (HS.out.trans (hb.mono HS.out.size))
        clear hb
        refine hK _ _ HS.out ?_
        clear hK K
        (try simp only [Act.put, List.setIfInBounds_toArray, List.set_cons_zero, List.set_cons_succ])
        refine step_arms (rs := [10, 11]) (by kernel_rfl) (by simp) ?_
        intro i hi
        simp only [List.mem_cons, List.not_mem_nil, or_false] at hi
        rcases hi with rfl | rfl
        · refine ⟨_, rfl, by rfl, fun K hK => ?_⟩
          go_simp
          obtain ⟨w3, hw⟩ : ∃ X, X = w2.alloc (.cells #[.int .i64 0, .int .i64 0] 27) := ⟨_, rfl⟩
          rw [← hw]
          have hb : Below w2.heap.size w2 w3 := by rw [hw]; exact (Below.refl _ _).alloc (Nat.le_refl _) _
          have T10 := Lib.hid (show Two w3 w2.heap.size 0 0 from by rw [hw]; exact (MapKept.heap_alloc w2 _).1)
          have GE10 := Lib.hid (HS.out.size); have G10 := Lib.hid (show W.heap.size ≤ w2.heap.size from Nat.le_trans HBL.out.size HS.out.size)
          have HS := Lib.hid (HS.out.trans (hb.mono HS.out.size))
          clear hw hb
          refine hK _ _ HS.out ?_
          clear hK K
          (try simp only [Act.put, List.setIfInBounds_toArray, List.set_cons_zero, List.set_cons_succ])
          refine step_arms (rs := [11]) (by kernel_rfl) (by simp) ?_
          intro i hi
          simp only [List.mem_cons, List.not_mem_nil, or_false] at hi
          subst hi
          · refine ⟨_, rfl, by rfl, fun K hK => ?_⟩
            go_simp
            obtain ⟨w4, hw⟩ : ∃ X, X = w3.alloc (.cells #[.int .i64 0, .int .i64 0] 27) := ⟨_, rfl⟩
            rw [← hw]
            have hb : Below w3.heap.size w3 w4 := by rw [hw]; exact (Below.refl _ _).alloc (Nat.le_refl _) _
            have T11 := Lib.hid (show Two w4 w3.heap.size 0 0 from by rw [hw]; exact (MapKept.heap_alloc w3 _).1)
            have GE11 := Lib.hid (HS.out.size); have G11 := Lib.hid (show W.heap.size ≤ w3.heap.size from Nat.le_trans HBL.out.size HS.out.size)
            have GN := Lib.hid (show w2.heap.size ≠ w3.heap.size from Nat.ne_of_lt (two_size T10.out))
            have HS := Lib.hid (HS.out.trans (hb.mono HS.out.size))
            have T10 := Lib.hid (two_below T10.out hb (two_size T10.out))
            clear hw hb
            refine hK _ _ HS.out ?_
            clear hK K
            (try simp only [Act.put, List.setIfInBounds_toArray, List.set_cons_zero, List.set_cons_succ])
            obtain ⟨k1, k2, k3, k4⟩ := two_cell T10.out
            refine step_list (i := 12) (by kernel_rfl) rfl (by rfl) (fun K hK => ?_)
            go_simp
            skip
            obtain ⟨Y, hY⟩ : ∃ X, X = (w4.setCell ⟨w2.heap.size, 0, none⟩ (.int .i64 r1)).setCell ⟨w2.heap.size, 1, none⟩ (.int .i64 q1) := ⟨_, rfl⟩
            rw [← hY]
            have S1 := Lib.hid (show Two Y (w2.heap.size) r1 q1 from by rw [hY]; exact two_set T10.out r1 q1)
            have S2 := Lib.hid (show Two Y (w3.heap.size) 0 0 from by rw [hY]; exact two_other T11.out (Ne.symm GN.out))
            have HS := Lib.hid (show Below W1.heap.size W1 Y from by rw [hY]; exact (HS.out.setCell GE10.out _).setCell GE10.out _)
            clear hY k1 k2 k3 k4
            refine hK _ _ HS.out ?_
            clear hK K
            obtain ⟨k1, k2, k3, k4⟩ := two_cell S2.out
            refine step_list (i := 13) (by kernel_rfl) rfl (by rfl) (fun K hK => ?_)
            go_simp
            obtain ⟨Z, hZ⟩ : ∃ X, X = (Y.setCell ⟨w3.heap.size, 0, none⟩ (.int .i64 r2)).setCell ⟨w3.heap.size, 1, none⟩ (.int .i64 q2) := ⟨_, rfl⟩
            rw [← hZ]
            have U1 := Lib.hid (show Two Z (w2.heap.size) r1 q1 from by rw [hZ]; exact two_other S1.out GN.out)
            have U2 := Lib.hid (show Two Z (w3.heap.size) r2 q2 from by rw [hZ]; exact two_set S2.out r2 q2)
            have HS := Lib.hid (show Below W1.heap.size W1 Z from by rw [hZ]; exact (HS.out.setCell GE11.out _).setCell GE11.out _)
            clear hZ k1 k2 k3 k4
            refine hK _ _ HS.out ?_
            clear hK K
            refine wpAnyH_done (by kernel_rfl) ?_ _
            go_wp2_with (fail)
            go_meet
            case rel => exact ⟨w2.heap.size, w3.heap.size, rfl, rfl, U1.out, U2.out, GN.out, G10.out, G11.out, HBL.out.trans (HS.out.mono HBL.out.size)⟩
        · refine ⟨_, rfl, by rfl, fun K hK => ?_⟩
          go_simp
          obtain ⟨w5, hw⟩ : ∃ X, X = w2.alloc (.cells #[.int .i64 0, .int .i64 0] 27) := ⟨_, rfl⟩
          rw [← hw]
          have hb : Below w2.heap.size w2 w5 := by rw [hw]; exact (Below.refl _ _).alloc (Nat.le_refl _) _
          have T11 := Lib.hid (show Two w5 w2.heap.size 0 0 from by rw [hw]; exact (MapKept.heap_alloc w2 _).1)
          have GE11 := Lib.hid (HS.out.size); have G11 := Lib.hid (show W.heap.size ≤ w2.heap.size from Nat.le_trans HBL.out.size HS.out.size)
          have HS := Lib.hid (HS.out.trans (hb.mono HS.out.size))
          clear hw hb
          refine hK _ _ HS.out ?_
          clear hK K
          (try simp only [Act.put, List.setIfInBounds_toArray, List.set_cons_zero, List.set_cons_succ])
          refine step_arms (rs := [10]) (by kernel_rfl) (by simp) ?_
          intro i hi
          simp only [List.mem_cons, List.not_mem_nil, or_false] at hi
          subst hi
          · refine ⟨_, rfl, by rfl, fun K hK => ?_⟩
            go_simp
            obtain ⟨w6, hw⟩ : ∃ X, X = w5.alloc (.cells #[.int .i64 0, .int .i64 0] 27) := ⟨_, rfl⟩
            rw [← hw]
            have hb : Below w5.heap.size w5 w6 := by rw [hw]; exact (Below.refl _ _).alloc (Nat.le_refl _) _
            have T10 := Lib.hid (show Two w6 w5.heap.size 0 0 from by rw [hw]; exact (MapKept.heap_alloc w5 _).1)
            have GE10 := Lib.hid (HS.out.size); have G10 := Lib.hid (show W.heap.size ≤ w5.heap.size from Nat.le_trans HBL.out.size HS.out.size)
            have GN := Lib.hid (show w5.heap.size ≠ w2.heap.size from Nat.ne_of_gt (two_size T11.out))
            have HS := Lib.hid (HS.out.trans (hb.mono HS.out.size))
            have T11 := Lib.hid (two_below T11.out hb (two_size T11.out))
            clear hw hb
            refine hK _ _ HS.out ?_
            clear hK K
            (try simp only [Act.put, List.setIfInBounds_toArray, List.set_cons_zero, List.set_cons_succ])
            obtain ⟨k1, k2, k3, k4⟩ := two_cell T10.out
            refine step_list (i := 12) (by kernel_rfl) rfl (by rfl) (fun K hK => ?_)
            go_simp
            skip
            obtain ⟨Y, hY⟩ : ∃ X, X = (w6.setCell ⟨w5.heap.size, 0, none⟩ (.int .i64 r1)).setCell ⟨w5.heap.size, 1, none⟩ (.int .i64 q1) := ⟨_, rfl⟩
            rw [← hY]
            have S1 := Lib.hid (show Two Y (w5.heap.size) r1 q1 from by rw [hY]; exact two_set T10.out r1 q1)
            have S2 := Lib.hid (show Two Y (w2.heap.size) 0 0 from by rw [hY]; exact two_other T11.out (Ne.symm GN.out))
            have HS := Lib.hid (show Below W1.heap.size W1 Y from by rw [hY]; exact (HS.out.setCell GE10.out _).setCell GE10.out _)
            clear hY k1 k2 k3 k4
            refine hK _ _ HS.out ?_
            clear hK K
            obtain ⟨k1, k2, k3, k4⟩ := two_cell S2.out
            refine step_list (i := 13) (by kernel_rfl) rfl (by rfl) (fun K hK => ?_)
            go_simp
            obtain ⟨Z, hZ⟩ : ∃ X, X = (Y.setCell ⟨w2.heap.size, 0, none⟩ (.int .i64 r2)).setCell ⟨w2.heap.size, 1, none⟩ (.int .i64 q2) := ⟨_, rfl⟩
            rw [← hZ]
            have U1 := Lib.hid (show Two Z (w5.heap.size) r1 q1 from by rw [hZ]; exact two_other S1.out GN.out)
            have U2 := Lib.hid (show Two Z (w2.heap.size) r2 q2 from by rw [hZ]; exact two_set S2.out r2 q2)
            have HS := Lib.hid (show Below W1.heap.size W1 Z from by rw [hZ]; exact (HS.out.setCell GE11.out _).setCell GE11.out _)
            clear hZ k1 k2 k3 k4
            refine hK _ _ HS.out ?_
            clear hK K
            refine wpAnyH_done (by kernel_rfl) ?_ _
            go_wp2_with (fail)
            go_meet
            case rel => exact ⟨w5.heap.size, w2.heap.size, rfl, rfl, U1.out, U2.out, GN.out, G10.out, G11.out, HBL.out.trans (HS.out.mono HBL.out.size)⟩
      · refine ⟨_, rfl, by rfl, fun K hK => ?_⟩
        go_simp
        obtain ⟨w7, hw⟩ : ∃ X, X = w1.alloc (.cells #[.int .i64 0, .int .i64 0] 27) := ⟨_, rfl⟩
        rw [← hw]
        have hb : Below w1.heap.size w1 w7 := by rw [hw]; exact (Below.refl _ _).alloc (Nat.le_refl _) _
        have T10 := Lib.hid (show Two w7 w1.heap.size 0 0 from by rw [hw]; exact (MapKept.heap_alloc w1 _).1)
        have GE10 := Lib.hid (HS.out.size); have G10 := Lib.hid (show W.heap.size ≤ w1.heap.size from Nat.le_trans HBL.out.size HS.out.size)
        have HS := Lib.hid (HS.out.trans (hb.mono HS.out.size))
        clear hw hb
        refine hK _ _ HS.out ?_
        clear hK K
        (try simp only [Act.put, List.setIfInBounds_toArray, List.set_cons_zero, List.set_cons_succ])
        refine step_arms (rs := [9, 11]) (by kernel_rfl) (by simp) ?_
        intro i hi
        simp only [List.mem_cons, List.not_mem_nil, or_false] at hi
        rcases hi with rfl | rfl
        · refine ⟨_, rfl, by rfl, fun K hK => ?_⟩
          go_simp
          refine (HR2.out _).mono ?_
          rintro e w8 ⟨rfl, hb⟩
          have HS := Lib.hid (HS.out.trans (hb.mono HS.out.size))
          have T10 := Lib.hid (two_below T10.out hb (two_size T10.out))
          clear hb
          refine hK _ _ HS.out ?_
          clear hK K
          (try simp only [Act.put, List.setIfInBounds_toArray, List.set_cons_zero, List.set_cons_succ])
          refine step_arms (rs := [11]) (by kernel_rfl) (by simp) ?_
          intro i hi
          simp only [List.mem_cons, List.not_mem_nil, or_false] at hi
          subst hi
          · refine ⟨_, rfl, by rfl, fun K hK => ?_⟩
            go_simp
            obtain ⟨w9, hw⟩ : ∃ X, X = w8.alloc (.cells #[.int .i64 0, .int .i64 0] 27) := ⟨_, rfl⟩
            rw [← hw]
            have hb : Below w8.heap.size w8 w9 := by rw [hw]; exact (Below.refl _ _).alloc (Nat.le_refl _) _
            have T11 := Lib.hid (show Two w9 w8.heap.size 0 0 from by rw [hw]; exact (MapKept.heap_alloc w8 _).1)
            have GE11 := Lib.hid (HS.out.size); have G11 := Lib.hid (show W.heap.size ≤ w8.heap.size from Nat.le_trans HBL.out.size HS.out.size)
            have GN := Lib.hid (show w1.heap.size ≠ w8.heap.size from Nat.ne_of_lt (two_size T10.out))
            have HS := Lib.hid (HS.out.trans (hb.mono HS.out.size))
            have T10 := Lib.hid (two_below T10.out hb (two_size T10.out))
            clear hw hb
            refine hK _ _ HS.out ?_
            clear hK K
            (try simp only [Act.put, List.setIfInBounds_toArray, List.set_cons_zero, List.set_cons_succ])
            obtain ⟨k1, k2, k3, k4⟩ := two_cell T10.out
            refine step_list (i := 12) (by kernel_rfl) rfl (by rfl) (fun K hK => ?_)
            go_simp
            skip
            obtain ⟨Y, hY⟩ : ∃ X, X = (w9.setCell ⟨w1.heap.size, 0, none⟩ (.int .i64 r1)).setCell ⟨w1.heap.size, 1, none⟩ (.int .i64 q1) := ⟨_, rfl⟩
            rw [← hY]
            have S1 := Lib.hid (show Two Y (w1.heap.size) r1 q1 from by rw [hY]; exact two_set T10.out r1 q1)
            have S2 := Lib.hid (show Two Y (w8.heap.size) 0 0 from by rw [hY]; exact two_other T11.out (Ne.symm GN.out))
            have HS := Lib.hid (show Below W1.heap.size W1 Y from by rw [hY]; exact (HS.out.setCell GE10.out _).setCell GE10.out _)
            clear hY k1 k2 k3 k4
            refine hK _ _ HS.out ?_
            clear hK K
            obtain ⟨k1, k2, k3, k4⟩ := two_cell S2.out
            refine step_list (i := 13) (by kernel_rfl) rfl (by rfl) (fun K hK => ?_)
            go_simp
            obtain ⟨Z, hZ⟩ : ∃ X, X = (Y.setCell ⟨w8.heap.size, 0, none⟩ (.int .i64 r2)).setCell ⟨w8.heap.size, 1, none⟩ (.int .i64 q2) := ⟨_, rfl⟩
            rw [← hZ]
            have U1 := Lib.hid (show Two Z (w1.heap.size) r1 q1 from by rw [hZ]; exact two_other S1.out GN.out)
            have U2 := Lib.hid (show Two Z (w8.heap.size) r2 q2 from by rw [hZ]; exact two_set S2.out r2 q2)
            have HS := Lib.hid (show Below W1.heap.size W1 Z from by rw [hZ]; exact (HS.out.setCell GE11.out _).setCell GE11.out _)
            clear hZ k1 k2 k3 k4
            refine hK _ _ HS.out ?_
            clear hK K
            refine wpAnyH_done (by kernel_rfl) ?_ _
            go_wp2_with (fail)
            go_meet
            case rel => exact ⟨w1.heap.size, w8.heap.size, rfl, rfl, U1.out, U2.out, GN.out, G10.out, G11.out, HBL.out.trans (HS.out.mono HBL.out.size)⟩
        · refine ⟨_, rfl, by rfl, fun K hK => ?_⟩
          go_simp
          obtain ⟨w10, hw⟩ : ∃ X, X = w7.alloc (.cells #[.int .i64 0, .int .i64 0] 27) := ⟨_, rfl⟩
          rw [← hw]
          have hb : Below w7.heap.size w7 w10 := by rw [hw]; exact (Below.refl _ _).alloc (Nat.le_refl _) _
          have T11 := Lib.hid (show Two w10 w7.heap.size 0 0 from by rw [hw]; exact (MapKept.heap_alloc w7 _).1)
          have GE11 := Lib.hid (HS.out.size); have G11 := Lib.hid (show W.heap.size ≤ w7.heap.size from Nat.le_trans HBL.out.size HS.out.size)
          have GN := Lib.hid (show w1.heap.size ≠ w7.heap.size from Nat.ne_of_lt (two_size T10.out))
          have HS := Lib.hid (HS.out.trans (hb.mono HS.out.size))
          have T10 := Lib.hid (two_below T10.out hb (two_size T10.out))
          clear hw hb
          refine hK _ _ HS.out ?_
          clear hK K
          (try simp only [Act.put, List.setIfInBounds_toArray, List.set_cons_zero, List.set_cons_succ])
          refine step_arms (rs := [9]) (by kernel_rfl) (by simp) ?_
          intro i hi
          simp only [List.mem_cons, List.not_mem_nil, or_false] at hi
          subst hi
          · refine ⟨_, rfl, by rfl, fun K hK => ?_⟩
            go_simp
            refine (HR2.out _).mono ?_
            rintro e w11 ⟨rfl, hb⟩
            have HS := Lib.hid (HS.out.trans (hb.mono HS.out.size))
            have T10 := Lib.hid (two_below T10.out hb (two_size T10.out))
            have T11 := Lib.hid (two_below T11.out hb (two_size T11.out))
            clear hb
            refine hK _ _ HS.out ?_
            clear hK K
            (try simp only [Act.put, List.setIfInBounds_toArray, List.set_cons_zero, List.set_cons_succ])
            obtain ⟨k1, k2, k3, k4⟩ := two_cell T10.out
            refine step_list (i := 12) (by kernel_rfl) rfl (by rfl) (fun K hK => ?_)
            go_simp
            skip
            obtain ⟨Y, hY⟩ : ∃ X, X = (w11.setCell ⟨w1.heap.size, 0, none⟩ (.int .i64 r1)).setCell ⟨w1.heap.size, 1, none⟩ (.int .i64 q1) := ⟨_, rfl⟩
            rw [← hY]
            have S1 := Lib.hid (show Two Y (w1.heap.size) r1 q1 from by rw [hY]; exact two_set T10.out r1 q1)
            have S2 := Lib.hid (show Two Y (w7.heap.size) 0 0 from by rw [hY]; exact two_other T11.out (Ne.symm GN.out))
            have HS := Lib.hid (show Below W1.heap.size W1 Y from by rw [hY]; exact (HS.out.setCell GE10.out _).setCell GE10.out _)
            clear hY k1 k2 k3 k4
            refine hK _ _ HS.out ?_
            clear hK K
            obtain ⟨k1, k2, k3, k4⟩ := two_cell S2.out
            refine step_list (i := 13) (by kernel_rfl) rfl (by rfl) (fun K hK => ?_)
            go_simp
            obtain ⟨Z, hZ⟩ : ∃ X, X = (Y.setCell ⟨w7.heap.size, 0, none⟩ (.int .i64 r2)).setCell ⟨w7.heap.size, 1, none⟩ (.int .i64 q2) := ⟨_, rfl⟩
            rw [← hZ]
            have U1 := Lib.hid (show Two Z (w1.heap.size) r1 q1 from by rw [hZ]; exact two_other S1.out GN.out)
            have U2 := Lib.hid (show Two Z (w7.heap.size) r2 q2 from by rw [hZ]; exact two_set S2.out r2 q2)
            have HS := Lib.hid (show Below W1.heap.size W1 Z from by rw [hZ]; exact (HS.out.setCell GE11.out _).setCell GE11.out _)
            clear hZ k1 k2 k3 k4
            refine hK _ _ HS.out ?_
            clear hK K
            refine wpAnyH_done (by kernel_rfl) ?_ _
            go_wp2_with (fail)
            go_meet
            case rel => exact ⟨w1.heap.size, w7.heap.size, rfl, rfl, U1.out, U2.out, GN.out, G10.out, G11.out, HBL.out.trans (HS.out.mono HBL.out.size)⟩
      · refine ⟨_, rfl, by rfl, fun K hK => ?_⟩
        go_simp
        obtain ⟨w12, hw⟩ : ∃ X, X = w1.alloc (.cells #[.int .i64 0, .int .i64 0] 27) := ⟨_, rfl⟩
        rw [← hw]
        have hb : Below w1.heap.size w1 w12 := by rw [hw]; exact (Below.refl _ _).alloc (Nat.le_refl _) _
        have T11 := Lib.hid (show Two w12 w1.heap.size 0 0 from by rw [hw]; exact (MapKept.heap_alloc w1 _).1)
        have GE11 := Lib.hid (HS.out.size); have G11 := Lib.hid (show W.heap.size ≤ w1.heap.size from Nat.le_trans HBL.out.size HS.out.size)
        have HS := Lib.hid (HS.out.trans (hb.mono HS.out.size))
        clear hw hb
        refine hK _ _ HS.out ?_
        clear hK K
        (try simp only [Act.put, List.setIfInBounds_toArray, List.set_cons_zero, List.set_cons_succ])
        refine step_arms (rs := [9, 10]) (by kernel_rfl) (by simp) ?_
        intro i hi
        simp only [List.mem_cons, List.not_mem_nil, or_false] at hi
        rcases hi with rfl | rfl
        · refine ⟨_, rfl, by rfl, fun K hK => ?_⟩
          go_simp
          refine (HR2.out _).mono ?_
          rintro e w13 ⟨rfl, hb⟩
          have HS := Lib.hid (HS.out.trans (hb.mono HS.out.size))
          have T11 := Lib.hid (two_below T11.out hb (two_size T11.out))
          clear hb
          refine hK _ _ HS.out ?_
          clear hK K
          (try simp only [Act.put, List.setIfInBounds_toArray, List.set_cons_zero, List.set_cons_succ])
          refine step_arms (rs := [10]) (by kernel_rfl) (by simp) ?_
          intro i hi
          simp only [List.mem_cons, List.not_mem_nil, or_false] at hi
          subst hi
          · refine ⟨_, rfl, by rfl, fun K hK => ?_⟩
            go_simp
            obtain ⟨w14, hw⟩ : ∃ X, X = w13.alloc (.cells #[.int .i64 0, .int .i64 0] 27) := ⟨_, rfl⟩
            rw [← hw]
            have hb : Below w13.heap.size w13 w14 := by rw [hw]; exact (Below.refl _ _).alloc (Nat.le_refl _) _
            have T10 := Lib.hid (show Two w14 w13.heap.size 0 0 from by rw [hw]; exact (MapKept.heap_alloc w13 _).1)
            have GE10 := Lib.hid (HS.out.size); have G10 := Lib.hid (show W.heap.size ≤ w13.heap.size from Nat.le_trans HBL.out.size HS.out.size)
            have GN := Lib.hid (show w13.heap.size ≠ w1.heap.size from Nat.ne_of_gt (two_size T11.out))
            have HS := Lib.hid (HS.out.trans (hb.mono HS.out.size))
            have T11 := Lib.hid (two_below T11.out hb (two_size T11.out))
            clear hw hb
            refine hK _ _ HS.out ?_
            clear hK K
            (try simp only [Act.put, List.setIfInBounds_toArray, List.set_cons_zero, List.set_cons_succ])
            obtain ⟨k1, k2, k3, k4⟩ := two_cell T10.out
            refine step_list (i := 12) (by kernel_rfl) rfl (by rfl) (fun K hK => ?_)
            go_simp
            skip
            obtain ⟨Y, hY⟩ : ∃ X, X = (w14.setCell ⟨w13.heap.size, 0, none⟩ (.int .i64 r1)).setCell ⟨w13.heap.size, 1, none⟩ (.int .i64 q1) := ⟨_, rfl⟩
            rw [← hY]
            have S1 := Lib.hid (show Two Y (w13.heap.size) r1 q1 from by rw [hY]; exact two_set T10.out r1 q1)
            have S2 := Lib.hid (show Two Y (w1.heap.size) 0 0 from by rw [hY]; exact two_other T11.out (Ne.symm GN.out))
            have HS := Lib.hid (show Below W1.heap.size W1 Y from by rw [hY]; exact (HS.out.setCell GE10.out _).setCell GE10.out _)
            clear hY k1 k2 k3 k4
            refine hK _ _ HS.out ?_
            clear hK K
            obtain ⟨k1, k2, k3, k4⟩ := two_cell S2.out
            refine step_list (i := 13) (by kernel_rfl) rfl (by rfl) (fun K hK => ?_)
            go_simp
            obtain ⟨Z, hZ⟩ : ∃ X, X = (Y.setCell ⟨w1.heap.size, 0, none⟩ (.int .i64 r2)).setCell ⟨w1.heap.size, 1, none⟩ (.int .i64 q2) := ⟨_, rfl⟩
            rw [← hZ]
            have U1 := Lib.hid (show Two Z (w13.heap.size) r1 q1 from by rw [hZ]; exact two_other S1.out GN.out)
            have U2 := Lib.hid (show Two Z (w1.heap.size) r2 q2 from by rw [hZ]; exact two_set S2.out r2 q2)
            have HS := Lib.hid (show Below W1.heap.size W1 Z from by rw [hZ]; exact (HS.out.setCell GE11.out _).setCell GE11.out _)
            clear hZ k1 k2 k3 k4
            refine hK _ _ HS.out ?_
            clear hK K
            refine wpAnyH_done (by kernel_rfl) ?_ _
            go_wp2_with (fail)
            go_meet
            case rel => exact ⟨w13.heap.size, w1.heap.size, rfl, rfl, U1.out, U2.out, GN.out, G10.out, G11.out, HBL.out.trans (HS.out.mono HBL.out.size)⟩
        · refine ⟨_, rfl, by rfl, fun K hK => ?_⟩
          go_simp
          obtain ⟨w15, hw⟩ : ∃ X, X = w12.alloc (.cells #[.int .i64 0, .int .i64 0] 27) := ⟨_, rfl⟩
          rw [← hw]
          have hb : Below w12.heap.size w12 w15 := by rw [hw]; exact (Below.refl _ _).alloc (Nat.le_refl _) _
          have T10 := Lib.hid (show Two w15 w12.heap.size 0 0 from by rw [hw]; exact (MapKept.heap_alloc w12 _).1)
          have GE10 := Lib.hid (HS.out.size); have G10 := Lib.hid (show W.heap.size ≤ w12.heap.size from Nat.le_trans HBL.out.size HS.out.size)
          have GN := Lib.hid (show w12.heap.size ≠ w1.heap.size from Nat.ne_of_gt (two_size T11.out))
          have HS := Lib.hid (HS.out.trans (hb.mono HS.out.size))
          have T11 := Lib.hid (two_below T11.out hb (two_size T11.out))
          clear hw hb
          refine hK _ _ HS.out ?_
          clear hK K
          (try simp only [Act.put, List.setIfInBounds_toArray, List.set_cons_zero, List.set_cons_succ])
          refine step_arms (rs := [9]) (by kernel_rfl) (by simp) ?_
          intro i hi
          simp only [List.mem_cons, List.not_mem_nil, or_false] at hi
          subst hi
          · refine ⟨_, rfl, by rfl, fun K hK => ?_⟩
            go_simp
            refine (HR2.out _).mono ?_
            rintro e w16 ⟨rfl, hb⟩
            have HS := Lib.hid (HS.out.trans (hb.mono HS.out.size))
            have T11 := Lib.hid (two_below T11.out hb (two_size T11.out))
            have T10 := Lib.hid (two_below T10.out hb (two_size T10.out))
            clear hb
            refine hK _ _ HS.out ?_
            clear hK K
            (try simp only [Act.put, List.setIfInBounds_toArray, List.set_cons_zero, List.set_cons_succ])
            obtain ⟨k1, k2, k3, k4⟩ := two_cell T10.out
            refine step_list (i := 12) (by kernel_rfl) rfl (by rfl) (fun K hK => ?_)
            go_simp
            skip
            obtain ⟨Y, hY⟩ : ∃ X, X = (w16.setCell ⟨w12.heap.size, 0, none⟩ (.int .i64 r1)).setCell ⟨w12.heap.size, 1, none⟩ (.int .i64 q1) := ⟨_, rfl⟩
            rw [← hY]
            have S1 := Lib.hid (show Two Y (w12.heap.size) r1 q1 from by rw [hY]; exact two_set T10.out r1 q1)
            have S2 := Lib.hid (show Two Y (w1.heap.size) 0 0 from by rw [hY]; exact two_other T11.out (Ne.symm GN.out))
            have HS := Lib.hid (show Below W1.heap.size W1 Y from by rw [hY]; exact (HS.out.setCell GE10.out _).setCell GE10.out _)
            clear hY k1 k2 k3 k4
            refine hK _ _ HS.out ?_
            clear hK K
            obtain ⟨k1, k2, k3, k4⟩ := two_cell S2.out
            refine step_list (i := 13) (by kernel_rfl) rfl (by rfl) (fun K hK => ?_)
            go_simp
            obtain ⟨Z, hZ⟩ : ∃ X, X = (Y.setCell ⟨w1.heap.size, 0, none⟩ (.int .i64 r2)).setCell ⟨w1.heap.size, 1, none⟩ (.int .i64 q2) := ⟨_, rfl⟩
            rw [← hZ]
            have U1 := Lib.hid (show Two Z (w12.heap.size) r1 q1 from by rw [hZ]; exact two_other S1.out GN.out)
            have U2 := Lib.hid (show Two Z (w1.heap.size) r2 q2 from by rw [hZ]; exact two_set S2.out r2 q2)
            have HS := Lib.hid (show Below W1.heap.size W1 Z from by rw [hZ]; exact (HS.out.setCell GE11.out _).setCell GE11.out _)
            clear hZ k1 k2 k3 k4
            refine hK _ _ HS.out ?_
            clear hK K
            refine wpAnyH_done (by kernel_rfl) ?_ _
            go_wp2_with (fail)
            go_meet
            case rel => exact ⟨w12.heap.size, w1.heap.size, rfl, rfl, U1.out, U2.out, GN.out, G10.out, G11.out, HBL.out.trans (HS.out.mono HBL.out.size)⟩
    · refine ⟨_, rfl, by rfl, fun K hK => ?_⟩
      go_simp
      obtain ⟨w17, hw⟩ : ∃ X, X = w0.alloc (.cells #[.int .i64 0, .int .i64 0] 27) := ⟨_, rfl⟩
      rw [← hw]
      have hb : Below w0.heap.size w0 w17 := by rw [hw]; exact (Below.refl _ _).alloc (Nat.le_refl _) _
      have T10 := Lib.hid (show Two w17 w0.heap.size 0 0 from by rw [hw]; exact (MapKept.heap_alloc w0 _).1)
      have GE10 := Lib.hid (HS.out.size); have G10 := Lib.hid (show W.heap.size ≤ w0.heap.size from Nat.le_trans HBL.out.size HS.out.size)
      have HS := Lib.hid (HS.out.trans (hb.mono HS.out.size))
      clear hw hb
      refine hK _ _ HS.out ?_
      clear hK K
      (try simp only [Act.put, List.setIfInBounds_toArray, List.set_cons_zero, List.set_cons_succ])
      refine step_arms (rs := [4, 11]) (by kernel_rfl) (by simp) ?_
      intro i hi
      simp only [List.mem_cons, List.not_mem_nil, or_false] at hi
      rcases hi with rfl | rfl
      · refine ⟨_, rfl, by rfl, fun K hK => ?_⟩
        go_simp
        refine (HR1.out _).mono ?_
        rintro e w18 ⟨rfl, hb⟩
        have HS := Lib.hid (HS.out.trans (hb.mono HS.out.size))
        have T10 := Lib.hid (two_below T10.out hb (two_size T10.out))
        clear hb
        refine hK _ _ HS.out ?_
        clear hK K
        (try simp only [Act.put, List.setIfInBounds_toArray, List.set_cons_zero, List.set_cons_succ])
        refine step_arms (rs := [9, 11]) (by kernel_rfl) (by simp) ?_
        intro i hi
        simp only [List.mem_cons, List.not_mem_nil, or_false] at hi
        rcases hi with rfl | rfl
        · refine ⟨_, rfl, by rfl, fun K hK => ?_⟩
          go_simp
          refine (HR2.out _).mono ?_
          rintro e w19 ⟨rfl, hb⟩
          have HS := Lib.hid (HS.out.trans (hb.mono HS.out.size))
          have T10 := Lib.hid (two_below T10.out hb (two_size T10.out))
          clear hb
          refine hK _ _ HS.out ?_
          clear hK K
          (try simp only [Act.put, List.setIfInBounds_toArray, List.set_cons_zero, List.set_cons_succ])
          refine step_arms (rs := [11]) (by kernel_rfl) (by simp) ?_
          intro i hi
          simp only [List.mem_cons, List.not_mem_nil, or_false] at hi
          subst hi
          · refine ⟨_, rfl, by rfl, fun K hK => ?_⟩
            go_simp
            obtain ⟨w20, hw⟩ : ∃ X, X = w19.alloc (.cells #[.int .i64 0, .int .i64 0] 27) := ⟨_, rfl⟩
            rw [← hw]
            have hb : Below w19.heap.size w19 w20 := by rw [hw]; exact (Below.refl _ _).alloc (Nat.le_refl _) _
            have T11 := Lib.hid (show Two w20 w19.heap.size 0 0 from by rw [hw]; exact (MapKept.heap_alloc w19 _).1)
            have GE11 := Lib.hid (HS.out.size); have G11 := Lib.hid (show W.heap.size ≤ w19.heap.size from Nat.le_trans HBL.out.size HS.out.size)
            have GN := Lib.hid (show w0.heap.size ≠ w19.heap.size from Nat.ne_of_lt (two_size T10.out))
            have HS := Lib.hid (HS.out.trans (hb.mono HS.out.size))
            have T10 := Lib.hid (two_below T10.out hb (two_size T10.out))
            clear hw hb
            refine hK _ _ HS.out ?_
            clear hK K
            (try simp only [Act.put, List.setIfInBounds_toArray, List.set_cons_zero, List.set_cons_succ])
            obtain ⟨k1, k2, k3, k4⟩ := two_cell T10.out
            refine step_list (i := 12) (by kernel_rfl) rfl (by rfl) (fun K hK => ?_)
            go_simp
            skip
            obtain ⟨Y, hY⟩ : ∃ X, X = (w20.setCell ⟨w0.heap.size, 0, none⟩ (.int .i64 r1)).setCell ⟨w0.heap.size, 1, none⟩ (.int .i64 q1) := ⟨_, rfl⟩
            rw [← hY]
            have S1 := Lib.hid (show Two Y (w0.heap.size) r1 q1 from by rw [hY]; exact two_set T10.out r1 q1)
            have S2 := Lib.hid (show Two Y (w19.heap.size) 0 0 from by rw [hY]; exact two_other T11.out (Ne.symm GN.out))
            have HS := Lib.hid (show Below W1.heap.size W1 Y from by rw [hY]; exact (HS.out.setCell GE10.out _).setCell GE10.out _)
            clear hY k1 k2 k3 k4
            refine hK _ _ HS.out ?_
            clear hK K
            obtain ⟨k1, k2, k3, k4⟩ := two_cell S2.out
            refine step_list (i := 13) (by kernel_rfl) rfl (by rfl) (fun K hK => ?_)
            go_simp
            obtain ⟨Z, hZ⟩ : ∃ X, X = (Y.setCell ⟨w19.heap.size, 0, none⟩ (.int .i64 r2)).setCell ⟨w19.heap.size, 1, none⟩ (.int .i64 q2) := ⟨_, rfl⟩
            rw [← hZ]
            have U1 := Lib.hid (show Two Z (w0.heap.size) r1 q1 from by rw [hZ]; exact two_other S1.out GN.out)
            have U2 := Lib.hid (show Two Z (w19.heap.size) r2 q2 from by rw [hZ]; exact two_set S2.out r2 q2)
            have HS := Lib.hid (show Below W1.heap.size W1 Z from by rw [hZ]; exact (HS.out.setCell GE11.out _).setCell GE11.out _)
            clear hZ k1 k2 k3 k4
            refine hK _ _ HS.out ?_
            clear hK K
            refine wpAnyH_done (by kernel_rfl) ?_ _
            go_wp2_with (fail)
            go_meet
            case rel => exact ⟨w0.heap.size, w19.heap.size, rfl, rfl, U1.out, U2.out, GN.out, G10.out, G11.out, HBL.out.trans (HS.out.mono HBL.out.size)⟩
        · refine ⟨_, rfl, by rfl, fun K hK => ?_⟩
          go_simp
          obtain ⟨w21, hw⟩ : ∃ X, X = w18.alloc (.cells #[.int .i64 0, .int .i64 0] 27) := ⟨_, rfl⟩
          rw [← hw]
          have hb : Below w18.heap.size w18 w21 := by rw [hw]; exact (Below.refl _ _).alloc (Nat.le_refl _) _
          have T11 := Lib.hid (show Two w21 w18.heap.size 0 0 from by rw [hw]; exact (MapKept.heap_alloc w18 _).1)
          have GE11 := Lib.hid (HS.out.size); have G11 := Lib.hid (show W.heap.size ≤ w18.heap.size from Nat.le_trans HBL.out.size HS.out.size)
          have GN := Lib.hid (show w0.heap.size ≠ w18.heap.size from Nat.ne_of_lt (two_size T10.out))
          have HS := Lib.hid (HS.out.trans (hb.mono HS.out.size))
          have T10 := Lib.hid (two_below T10.out hb (two_size T10.out))
          clear hw hb
          refine hK _ _ HS.out ?_
          clear hK K
          (try simp only [Act.put, List.setIfInBounds_toArray, List.set_cons_zero, List.set_cons_succ])
          refine step_arms (rs := [9]) (by kernel_rfl) (by simp) ?_
          intro i hi
          simp only [List.mem_cons, List.not_mem_nil, or_false] at hi
          subst hi
          · refine ⟨_, rfl, by rfl, fun K hK => ?_⟩
            go_simp
            refine (HR2.out _).mono ?_
            rintro e w22 ⟨rfl, hb⟩
            have HS := Lib.hid (HS.out.trans (hb.mono HS.out.size))
            have T10 := Lib.hid (two_below T10.out hb (two_size T10.out))
            have T11 := Lib.hid (two_below T11.out hb (two_size T11.out))
            clear hb
            refine hK _ _ HS.out ?_
            clear hK K
            (try simp only [Act.put, List.setIfInBounds_toArray, List.set_cons_zero, List.set_cons_succ])
            obtain ⟨k1, k2, k3, k4⟩ := two_cell T10.out
            refine step_list (i := 12) (by kernel_rfl) rfl (by rfl) (fun K hK => ?_)
            go_simp
            skip
            obtain ⟨Y, hY⟩ : ∃ X, X = (w22.setCell ⟨w0.heap.size, 0, none⟩ (.int .i64 r1)).setCell ⟨w0.heap.size, 1, none⟩ (.int .i64 q1) := ⟨_, rfl⟩
            rw [← hY]
            have S1 := Lib.hid (show Two Y (w0.heap.size) r1 q1 from by rw [hY]; exact two_set T10.out r1 q1)
            have S2 := Lib.hid (show Two Y (w18.heap.size) 0 0 from by rw [hY]; exact two_other T11.out (Ne.symm GN.out))
            have HS := Lib.hid (show Below W1.heap.size W1 Y from by rw [hY]; exact (HS.out.setCell GE10.out _).setCell GE10.out _)
            clear hY k1 k2 k3 k4
            refine hK _ _ HS.out ?_
            clear hK K
            obtain ⟨k1, k2, k3, k4⟩ := two_cell S2.out
            refine step_list (i := 13) (by kernel_rfl) rfl (by rfl) (fun K hK => ?_)
            go_simp
            obtain ⟨Z, hZ⟩ : ∃ X, X = (Y.setCell ⟨w18.heap.size, 0, none⟩ (.int .i64 r2)).setCell ⟨w18.heap.size, 1, none⟩ (.int .i64 q2) := ⟨_, rfl⟩
            rw [← hZ]
            have U1 := Lib.hid (show Two Z (w0.heap.size) r1 q1 from by rw [hZ]; exact two_other S1.out GN.out)
            have U2 := Lib.hid (show Two Z (w18.heap.size) r2 q2 from by rw [hZ]; exact two_set S2.out r2 q2)
            have HS := Lib.hid (show Below W1.heap.size W1 Z from by rw [hZ]; exact (HS.out.setCell GE11.out _).setCell GE11.out _)
            clear hZ k1 k2 k3 k4
            refine hK _ _ HS.out ?_
            clear hK K
            refine wpAnyH_done (by kernel_rfl) ?_ _
            go_wp2_with (fail)
            go_meet
            case rel => exact ⟨w0.heap.size, w18.heap.size, rfl, rfl, U1.out, U2.out, GN.out, G10.out, G11.out, HBL.out.trans (HS.out.mono HBL.out.size)⟩
      · refine ⟨_, rfl, by rfl, fun K hK => ?_⟩
        go_simp
        obtain ⟨w23, hw⟩ : ∃ X, X = w17.alloc (.cells #[.int .i64 0, .int .i64 0] 27) := ⟨_, rfl⟩
        rw [← hw]
        have hb : Below w17.heap.size w17 w23 := by rw [hw]; exact (Below.refl _ _).alloc (Nat.le_refl _) _
        have T11 := Lib.hid (show Two w23 w17.heap.size 0 0 from by rw [hw]; exact (MapKept.heap_alloc w17 _).1)
        have GE11 := Lib.hid (HS.out.size); have G11 := Lib.hid (show W.heap.size ≤ w17.heap.size from Nat.le_trans HBL.out.size HS.out.size)
        have GN := Lib.hid (show w0.heap.size ≠ w17.heap.size from Nat.ne_of_lt (two_size T10.out))
        have HS := Lib.hid (HS.out.trans (hb.mono HS.out.size))
        have T10 := Lib.hid (two_below T10.out hb (two_size T10.out))
        clear hw hb
        refine hK _ _ HS.out ?_
        clear hK K
        (try simp only [Act.put, List.setIfInBounds_toArray, List.set_cons_zero, List.set_cons_succ])
        refine step_arms (rs := [4]) (by kernel_rfl) (by simp) ?_
        intro i hi
        simp only [List.mem_cons, List.not_mem_nil, or_false] at hi
        subst hi
        · refine ⟨_, rfl, by rfl, fun K hK => ?_⟩
          go_simp
          refine (HR1.out _).mono ?_
          rintro e w24 ⟨rfl, hb⟩
          have HS := Lib.hid (HS.out.trans (hb.mono HS.out.size))
          have T10 := Lib.hid (two_below T10.out hb (two_size T10.out))
          have T11 := Lib.hid (two_below T11.out hb (two_size T11.out))
          clear hb
          refine hK _ _ HS.out ?_
          clear hK K
          (try simp only [Act.put, List.setIfInBounds_toArray, List.set_cons_zero, List.set_cons_succ])
          refine step_arms (rs := [9]) (by kernel_rfl) (by simp) ?_
          intro i hi
          simp only [List.mem_cons, List.not_mem_nil, or_false] at hi
          subst hi
          · refine ⟨_, rfl, by rfl, fun K hK => ?_⟩
            go_simp
            refine (HR2.out _).mono ?_
            rintro e w25 ⟨rfl, hb⟩
            have HS := Lib.hid (HS.out.trans (hb.mono HS.out.size))
            have T10 := Lib.hid (two_below T10.out hb (two_size T10.out))
            have T11 := Lib.hid (two_below T11.out hb (two_size T11.out))
            clear hb
            refine hK _ _ HS.out ?_
            clear hK K
            (try simp only [Act.put, List.setIfInBounds_toArray, List.set_cons_zero, List.set_cons_succ])
            obtain ⟨k1, k2, k3, k4⟩ := two_cell T10.out
            refine step_list (i := 12) (by kernel_rfl) rfl (by rfl) (fun K hK => ?_)
            go_simp
            skip
            obtain ⟨Y, hY⟩ : ∃ X, X = (w25.setCell ⟨w0.heap.size, 0, none⟩ (.int .i64 r1)).setCell ⟨w0.heap.size, 1, none⟩ (.int .i64 q1) := ⟨_, rfl⟩
            rw [← hY]
            have S1 := Lib.hid (show Two Y (w0.heap.size) r1 q1 from by rw [hY]; exact two_set T10.out r1 q1)
            have S2 := Lib.hid (show Two Y (w17.heap.size) 0 0 from by rw [hY]; exact two_other T11.out (Ne.symm GN.out))
            have HS := Lib.hid (show Below W1.heap.size W1 Y from by rw [hY]; exact (HS.out.setCell GE10.out _).setCell GE10.out _)
            clear hY k1 k2 k3 k4
            refine hK _ _ HS.out ?_
            clear hK K
            obtain ⟨k1, k2, k3, k4⟩ := two_cell S2.out
            refine step_list (i := 13) (by kernel_rfl) rfl (by rfl) (fun K hK => ?_)
            go_simp
            obtain ⟨Z, hZ⟩ : ∃ X, X = (Y.setCell ⟨w17.heap.size, 0, none⟩ (.int .i64 r2)).setCell ⟨w17.heap.size, 1, none⟩ (.int .i64 q2) := ⟨_, rfl⟩
            rw [← hZ]
            have U1 := Lib.hid (show Two Z (w0.heap.size) r1 q1 from by rw [hZ]; exact two_other S1.out GN.out)
            have U2 := Lib.hid (show Two Z (w17.heap.size) r2 q2 from by rw [hZ]; exact two_set S2.out r2 q2)
            have HS := Lib.hid (show Below W1.heap.size W1 Z from by rw [hZ]; exact (HS.out.setCell GE11.out _).setCell GE11.out _)
            clear hZ k1 k2 k3 k4
            refine hK _ _ HS.out ?_
            clear hK K
            refine wpAnyH_done (by kernel_rfl) ?_ _
            go_wp2_with (fail)
            go_meet
            case rel => exact ⟨w0.heap.size, w17.heap.size, rfl, rfl, U1.out, U2.out, GN.out, G10.out, G11.out, HBL.out.trans (HS.out.mono HBL.out.size)⟩
    · refine ⟨_, rfl, by rfl, fun K hK => ?_⟩
      go_simp
      obtain ⟨w26, hw⟩ : ∃ X, X = w0.alloc (.cells #[.int .i64 0, .int .i64 0] 27) := ⟨_, rfl⟩
      rw [← hw]
      have hb : Below w0.heap.size w0 w26 := by rw [hw]; exact (Below.refl _ _).alloc (Nat.le_refl _) _
      have T11 := Lib.hid (show Two w26 w0.heap.size 0 0 from by rw [hw]; exact (MapKept.heap_alloc w0 _).1)
      have GE11 := Lib.hid (HS.out.size); have G11 := Lib.hid (show W.heap.size ≤ w0.heap.size from Nat.le_trans HBL.out.size HS.out.size)
      have HS := Lib.hid (HS.out.trans (hb.mono HS.out.size))
      clear hw hb
      refine hK _ _ HS.out ?_
      clear hK K
      (try simp only [Act.put, List.setIfInBounds_toArray, List.set_cons_zero, List.set_cons_succ])
      refine step_arms (rs := [4, 10]) (by kernel_rfl) (by simp) ?_
      intro i hi
      simp only [List.mem_cons, List.not_mem_nil, or_false] at hi
      rcases hi with rfl | rfl
      · refine ⟨_, rfl, by rfl, fun K hK => ?_⟩
        go_simp
        refine (HR1.out _).mono ?_
        rintro e w27 ⟨rfl, hb⟩
        have HS := Lib.hid (HS.out.trans (hb.mono HS.out.size))
        have T11 := Lib.hid (two_below T11.out hb (two_size T11.out))
        clear hb
        refine hK _ _ HS.out ?_
        clear hK K
        (try simp only [Act.put, List.setIfInBounds_toArray, List.set_cons_zero, List.set_cons_succ])
        refine step_arms (rs := [9, 10]) (by kernel_rfl) (by simp) ?_
        intro i hi
        simp only [List.mem_cons, List.not_mem_nil, or_false] at hi
        rcases hi with rfl | rfl
        · refine ⟨_, rfl, by rfl, fun K hK => ?_⟩
          go_simp
          refine (HR2.out _).mono ?_
          rintro e w28 ⟨rfl, hb⟩
          have HS := Lib.hid (HS.out.trans (hb.mono HS.out.size))
          have T11 := Lib.hid (two_below T11.out hb (two_size T11.out))
          clear hb
          refine hK _ _ HS.out ?_
          clear hK K
          (try simp only [Act.put, List.setIfInBounds_toArray, List.set_cons_zero, List.set_cons_succ])
          refine step_arms (rs := [10]) (by kernel_rfl) (by simp) ?_
          intro i hi
          simp only [List.mem_cons, List.not_mem_nil, or_false] at hi
          subst hi
          · refine ⟨_, rfl, by rfl, fun K hK => ?_⟩
            go_simp
            obtain ⟨w29, hw⟩ : ∃ X, X = w28.alloc (.cells #[.int .i64 0, .int .i64 0] 27) := ⟨_, rfl⟩
            rw [← hw]
            have hb : Below w28.heap.size w28 w29 := by rw [hw]; exact (Below.refl _ _).alloc (Nat.le_refl _) _
            have T10 := Lib.hid (show Two w29 w28.heap.size 0 0 from by rw [hw]; exact (MapKept.heap_alloc w28 _).1)
            have GE10 := Lib.hid (HS.out.size); have G10 := Lib.hid (show W.heap.size ≤ w28.heap.size from Nat.le_trans HBL.out.size HS.out.size)
            have GN := Lib.hid (show w28.heap.size ≠ w0.heap.size from Nat.ne_of_gt (two_size T11.out))
            have HS := Lib.hid (HS.out.trans (hb.mono HS.out.size))
            have T11 := Lib.hid (two_below T11.out hb (two_size T11.out))
            clear hw hb
            refine hK _ _ HS.out ?_
            clear hK K
            (try simp only [Act.put, List.setIfInBounds_toArray, List.set_cons_zero, List.set_cons_succ])
            obtain ⟨k1, k2, k3, k4⟩ := two_cell T10.out
            refine step_list (i := 12) (by kernel_rfl) rfl (by rfl) (fun K hK => ?_)
            go_simp
            skip
            obtain ⟨Y, hY⟩ : ∃ X, X = (w29.setCell ⟨w28.heap.size, 0, none⟩ (.int .i64 r1)).setCell ⟨w28.heap.size, 1, none⟩ (.int .i64 q1) := ⟨_, rfl⟩
            rw [← hY]
            have S1 := Lib.hid (show Two Y (w28.heap.size) r1 q1 from by rw [hY]; exact two_set T10.out r1 q1)
            have S2 := Lib.hid (show Two Y (w0.heap.size) 0 0 from by rw [hY]; exact two_other T11.out (Ne.symm GN.out))
            have HS := Lib.hid (show Below W1.heap.size W1 Y from by rw [hY]; exact (HS.out.setCell GE10.out _).setCell GE10.out _)
            clear hY k1 k2 k3 k4
            refine hK _ _ HS.out ?_
            clear hK K
            obtain ⟨k1, k2, k3, k4⟩ := two_cell S2.out
            refine step_list (i := 13) (by kernel_rfl) rfl (by rfl) (fun K hK => ?_)
            go_simp
            obtain ⟨Z, hZ⟩ : ∃ X, X = (Y.setCell ⟨w0.heap.size, 0, none⟩ (.int .i64 r2)).setCell ⟨w0.heap.size, 1, none⟩ (.int .i64 q2) := ⟨_, rfl⟩
            rw [← hZ]
            have U1 := Lib.hid (show Two Z (w28.heap.size) r1 q1 from by rw [hZ]; exact two_other S1.out GN.out)
            have U2 := Lib.hid (show Two Z (w0.heap.size) r2 q2 from by rw [hZ]; exact two_set S2.out r2 q2)
            have HS := Lib.hid (show Below W1.heap.size W1 Z from by rw [hZ]; exact (HS.out.setCell GE11.out _).setCell GE11.out _)
            clear hZ k1 k2 k3 k4
            refine hK _ _ HS.out ?_
            clear hK K
            refine wpAnyH_done (by kernel_rfl) ?_ _
            go_wp2_with (fail)
            go_meet
            case rel => exact ⟨w28.heap.size, w0.heap.size, rfl, rfl, U1.out, U2.out, GN.out, G10.out, G11.out, HBL.out.trans (HS.out.mono HBL.out.size)⟩
        · refine ⟨_, rfl, by rfl, fun K hK => ?_⟩
          go_simp
          obtain ⟨w30, hw⟩ : ∃ X, X = w27.alloc (.cells #[.int .i64 0, .int .i64 0] 27) := ⟨_, rfl⟩
          rw [← hw]
          have hb : Below w27.heap.size w27 w30 := by rw [hw]; exact (Below.refl _ _).alloc (Nat.le_refl _) _
          have T10 := Lib.hid (show Two w30 w27.heap.size 0 0 from by rw [hw]; exact (MapKept.heap_alloc w27 _).1)
          have GE10 := Lib.hid (HS.out.size); have G10 := Lib.hid (show W.heap.size ≤ w27.heap.size from Nat.le_trans HBL.out.size HS.out.size)
          have GN := Lib.hid (show w27.heap.size ≠ w0.heap.size from Nat.ne_of_gt (two_size T11.out))
          have HS := Lib.hid (HS.out.trans (hb.mono HS.out.size))
          have T11 := Lib.hid (two_below T11.out hb (two_size T11.out))
          clear hw hb
          refine hK _ _ HS.out ?_
          clear hK K
          (try simp only [Act.put, List.setIfInBounds_toArray, List.set_cons_zero, List.set_cons_succ])
          refine step_arms (rs := [9]) (by kernel_rfl) (by simp) ?_
          intro i hi
          simp only [List.mem_cons, List.not_mem_nil, or_false] at hi
          subst hi
          · refine ⟨_, rfl, by rfl, fun K hK => ?_⟩
            go_simp
            refine (HR2.out _).mono ?_
            rintro e w31 ⟨rfl, hb⟩
            have HS := Lib.hid (HS.out.trans (hb.mono HS.out.size))
            have T11 := Lib.hid (two_below T11.out hb (two_size T11.out))
            have T10 := Lib.hid (two_below T10.out hb (two_size T10.out))
            clear hb
            refine hK _ _ HS.out ?_
            clear hK K
            (try simp only [Act.put, List.setIfInBounds_toArray, List.set_cons_zero, List.set_cons_succ])
            obtain ⟨k1, k2, k3, k4⟩ := two_cell T10.out
            refine step_list (i := 12) (by kernel_rfl) rfl (by rfl) (fun K hK => ?_)
            go_simp
            skip
            obtain ⟨Y, hY⟩ : ∃ X, X = (w31.setCell ⟨w27.heap.size, 0, none⟩ (.int .i64 r1)).setCell ⟨w27.heap.size, 1, none⟩ (.int .i64 q1) := ⟨_, rfl⟩
            rw [← hY]
            have S1 := Lib.hid (show Two Y (w27.heap.size) r1 q1 from by rw [hY]; exact two_set T10.out r1 q1)
            have S2 := Lib.hid (show Two Y (w0.heap.size) 0 0 from by rw [hY]; exact two_other T11.out (Ne.symm GN.out))
            have HS := Lib.hid (show Below W1.heap.size W1 Y from by rw [hY]; exact (HS.out.setCell GE10.out _).setCell GE10.out _)
            clear hY k1 k2 k3 k4
            refine hK _ _ HS.out ?_
            clear hK K
            obtain ⟨k1, k2, k3, k4⟩ := two_cell S2.out
            refine step_list (i := 13) (by kernel_rfl) rfl (by rfl) (fun K hK => ?_)
            go_simp
            obtain ⟨Z, hZ⟩ : ∃ X, X = (Y.setCell ⟨w0.heap.size, 0, none⟩ (.int .i64 r2)).setCell ⟨w0.heap.size, 1, none⟩ (.int .i64 q2) := ⟨_, rfl⟩
            rw [← hZ]
            have U1 := Lib.hid (show Two Z (w27.heap.size) r1 q1 from by rw [hZ]; exact two_other S1.out GN.out)
            have U2 := Lib.hid (show Two Z (w0.heap.size) r2 q2 from by rw [hZ]; exact two_set S2.out r2 q2)
            have HS := Lib.hid (show Below W1.heap.size W1 Z from by rw [hZ]; exact (HS.out.setCell GE11.out _).setCell GE11.out _)
            clear hZ k1 k2 k3 k4
            refine hK _ _ HS.out ?_
            clear hK K
            refine wpAnyH_done (by kernel_rfl) ?_ _
            go_wp2_with (fail)
            go_meet
            case rel => exact ⟨w27.heap.size, w0.heap.size, rfl, rfl, U1.out, U2.out, GN.out, G10.out, G11.out, HBL.out.trans (HS.out.mono HBL.out.size)⟩
      · refine ⟨_, rfl, by rfl, fun K hK => ?_⟩
        go_simp
        obtain ⟨w32, hw⟩ : ∃ X, X = w26.alloc (.cells #[.int .i64 0, .int .i64 0] 27) := ⟨_, rfl⟩
        rw [← hw]
        have hb : Below w26.heap.size w26 w32 := by rw [hw]; exact (Below.refl _ _).alloc (Nat.le_refl _) _
        have T10 := Lib.hid (show Two w32 w26.heap.size 0 0 from by rw [hw]; exact (MapKept.heap_alloc w26 _).1)
        have GE10 := Lib.hid (HS.out.size); have G10 := Lib.hid (show W.heap.size ≤ w26.heap.size from Nat.le_trans HBL.out.size HS.out.size)
        have GN := Lib.hid (show w26.heap.size ≠ w0.heap.size from Nat.ne_of_gt (two_size T11.out))
        have HS := Lib.hid (HS.out.trans (hb.mono HS.out.size))
        have T11 := Lib.hid (two_below T11.out hb (two_size T11.out))
        clear hw hb
        refine hK _ _ HS.out ?_
        clear hK K
        (try simp only [Act.put, List.setIfInBounds_toArray, List.set_cons_zero, List.set_cons_succ])
        refine step_arms (rs := [4]) (by kernel_rfl) (by simp) ?_
        intro i hi
        simp only [List.mem_cons, List.not_mem_nil, or_false] at hi
        subst hi
        · refine ⟨_, rfl, by rfl, fun K hK => ?_⟩
          go_simp
          refine (HR1.out _).mono ?_
          rintro e w33 ⟨rfl, hb⟩
          have HS := Lib.hid (HS.out.trans (hb.mono HS.out.size))
          have T11 := Lib.hid (two_below T11.out hb (two_size T11.out))
          have T10 := Lib.hid (two_below T10.out hb (two_size T10.out))
          clear hb
          refine hK _ _ HS.out ?_
          clear hK K
          (try simp only [Act.put, List.setIfInBounds_toArray, List.set_cons_zero, List.set_cons_succ])
          refine step_arms (rs := [9]) (by kernel_rfl) (by simp) ?_
          intro i hi
          simp only [List.mem_cons, List.not_mem_nil, or_false] at hi
          subst hi
          · refine ⟨_, rfl, by rfl, fun K hK => ?_⟩
            go_simp
            refine (HR2.out _).mono ?_
            rintro e w34 ⟨rfl, hb⟩
            have HS := Lib.hid (HS.out.trans (hb.mono HS.out.size))
            have T11 := Lib.hid (two_below T11.out hb (two_size T11.out))
            have T10 := Lib.hid (two_below T10.out hb (two_size T10.out))
            clear hb
            refine hK _ _ HS.out ?_
            clear hK K
            (try simp only [Act.put, List.setIfInBounds_toArray, List.set_cons_zero, List.set_cons_succ])
            obtain ⟨k1, k2, k3, k4⟩ := two_cell T10.out
            refine step_list (i := 12) (by kernel_rfl) rfl (by rfl) (fun K hK => ?_)
            go_simp
            skip
            obtain ⟨Y, hY⟩ : ∃ X, X = (w34.setCell ⟨w26.heap.size, 0, none⟩ (.int .i64 r1)).setCell ⟨w26.heap.size, 1, none⟩ (.int .i64 q1) := ⟨_, rfl⟩
            rw [← hY]
            have S1 := Lib.hid (show Two Y (w26.heap.size) r1 q1 from by rw [hY]; exact two_set T10.out r1 q1)
            have S2 := Lib.hid (show Two Y (w0.heap.size) 0 0 from by rw [hY]; exact two_other T11.out (Ne.symm GN.out))
            have HS := Lib.hid (show Below W1.heap.size W1 Y from by rw [hY]; exact (HS.out.setCell GE10.out _).setCell GE10.out _)
            clear hY k1 k2 k3 k4
            refine hK _ _ HS.out ?_
            clear hK K
            obtain ⟨k1, k2, k3, k4⟩ := two_cell S2.out
            refine step_list (i := 13) (by kernel_rfl) rfl (by rfl) (fun K hK => ?_)
            go_simp
            obtain ⟨Z, hZ⟩ : ∃ X, X = (Y.setCell ⟨w0.heap.size, 0, none⟩ (.int .i64 r2)).setCell ⟨w0.heap.size, 1, none⟩ (.int .i64 q2) := ⟨_, rfl⟩
            rw [← hZ]
            have U1 := Lib.hid (show Two Z (w26.heap.size) r1 q1 from by rw [hZ]; exact two_other S1.out GN.out)
            have U2 := Lib.hid (show Two Z (w0.heap.size) r2 q2 from by rw [hZ]; exact two_set S2.out r2 q2)
            have HS := Lib.hid (show Below W1.heap.size W1 Z from by rw [hZ]; exact (HS.out.setCell GE11.out _).setCell GE11.out _)
            clear hZ k1 k2 k3 k4
            refine hK _ _ HS.out ?_
            clear hK K
            refine wpAnyH_done (by kernel_rfl) ?_ _
            go_wp2_with (fail)
            go_meet
            case rel => exact ⟨w26.heap.size, w0.heap.size, rfl, rfl, U1.out, U2.out, GN.out, G10.out, G11.out, HBL.out.trans (HS.out.mono HBL.out.size)⟩
  case rest =>
    clear c1 c2 c3 c4 c5
    obtain ⟨g1, g2, rfl, rfl, T1, T2, GN, G1, G2, HB⟩ := hcut
    obtain ⟨c1, c2, -, -⟩ := two_cell T1.out
    go_wp2_with fail
    refine (HB1.out _).mono ?_
    rintro e w3 ⟨rfl, hb⟩
    have HB := Lib.hid (HB.out.trans (hb.mono HB.out.size))
    have T1 := Lib.hid (two_step T1.out hb)
    have T2 := Lib.hid (two_step T2.out hb)
    clear hb
    clear c1 c2
    go_upto_region 4 with (fail)
    obtain ⟨w4, hw⟩ : ∃ X, X = w3.alloc (.cells #[.int .i64 lo1, .int .i64 hi1] 39) := ⟨_, rfl⟩
    rw [← hw]
    have hb : Below w3.heap.size w3 w4 := by rw [hw]; exact (Below.refl _ _).alloc (Nat.le_refl _) _
    have RG := Lib.hid (show TwoR w4 w3.heap.size lo1 hi1 from by rw [hw]; exact (MapKept.heap_alloc w3 _).1)
    clear hw
    have HB := Lib.hid (HB.out.trans (hb.mono HB.out.size))
    have T1 := Lib.hid (two_step T1.out hb)
    have T2 := Lib.hid (two_step T2.out hb)
    clear hb
    obtain ⟨c1, c2, -, -⟩ := two_cell T2.out
    go_wp2_with fail
    refine (HB2.out _).mono ?_
    rintro e w5 ⟨rfl, hb⟩
    have HB := Lib.hid (HB.out.trans (hb.mono HB.out.size))
    have T1 := Lib.hid (two_step T1.out hb)
    have T2 := Lib.hid (two_step T2.out hb)
    have RG := Lib.hid (twoR_step RG.out hb)
    clear hb
    clear c1 c2
    go_upto_region 5 with (fail)
    obtain ⟨w6, hw⟩ : ∃ X, X = w5.alloc (.cells #[.int .i64 lo2, .int .i64 hi2] 39) := ⟨_, rfl⟩
    rw [← hw]
    have hb : Below w5.heap.size w5 w6 := by rw [hw]; exact (Below.refl _ _).alloc (Nat.le_refl _) _
    have RH := Lib.hid (show TwoR w6 w5.heap.size lo2 hi2 from by rw [hw]; exact (MapKept.heap_alloc w5 _).1)
    clear hw
    have HB := Lib.hid (HB.out.trans (hb.mono HB.out.size))
    have T1 := Lib.hid (two_step T1.out hb)
    have T2 := Lib.hid (two_step T2.out hb)
    have RG := Lib.hid (twoR_step RG.out hb)
    clear hb
    go_wp2_with fail
    refine (HLK.out _).mono ?_
    rintro e w7 ⟨rfl, hb⟩
    have HB := Lib.hid (HB.out.trans (hb.mono HB.out.size))
    have T1 := Lib.hid (two_step T1.out hb)
    have T2 := Lib.hid (two_step T2.out hb)
    have RG := Lib.hid (twoR_step RG.out hb)
    have RH := Lib.hid (twoR_step RH.out hb)
    clear hb
    go_upto_region 6 with (fail)
    obtain ⟨gg, hgg⟩ : ∃ g, g = w3.heap.size := ⟨_, rfl⟩
    obtain ⟨gh, hgh⟩ : ∃ g, g = w5.heap.size := ⟨_, rfl⟩
    rw [← hgg, ← hgh]
    rw [← hgg] at RG
    rw [← hgh] at RH
    clear hgg hgh
    obtain ⟨c1, c2, -, -⟩ := two_cell T1.out
    obtain ⟨c3, c4⟩ := twoR_cell RG.out
    have e1 : decide ((lo1 : Int) < 0) = false := decide_eq_false (by omega)
    have e2 : decide (hi1 < lo1) = false := decide_eq_false (by omega)
    have e3 : decide (a < hi1) = false := decide_eq_false (by omega)
    have e4 : decide ((k : Int) < 0) = false := decide_eq_false (by omega)
    have e5 : decide (a < k) = false := decide_eq_false (by omega)
    have f1 : 10 * (r1 : Int) ≤ 9000000000 := by omega
    by_cases h10 : 10 * r1 ≤ q1
    case' pos => have h11 := m4 h10; have e6 : decide (10 * (r1 : Int) ≤ (q1 : Int)) = true := decide_eq_true (by omega); have e7 : decide (k < lo1) = false := decide_eq_false (by omega); have e8 : decide (hi1 < k) = false := decide_eq_false (by omega)
    case' neg => have e6 : decide (10 * (r1 : Int) ≤ (q1 : Int)) = false := decide_eq_false (by omega); have e7 := True.intro; have e8 := True.intro; have h11 := True.intro
    all_goals
      have HE := Lib.hid h11
      clear h11 h10
      go_upto_region 8 with (fail)
      clear c3 c4 e1 e2 e3 e4 e5 e6 e7 e8 f1
      obtain ⟨c3, c4, -, -⟩ := two_cell T2.out
      go_wp2_with fail
      refine (HLE.out _).mono ?_
      rintro e w8 ⟨rfl, hb⟩
      have HB := Lib.hid (HB.out.trans (hb.mono HB.out.size))
      have T1 := Lib.hid (two_step T1.out hb)
      have T2 := Lib.hid (two_step T2.out hb)
      have RG := Lib.hid (twoR_step RG.out hb)
      have RH := Lib.hid (twoR_step RH.out hb)
      clear hb
      clear c1 c2 c3 c4
      obtain ⟨c1, c2⟩ := twoR_cell RG.out
      obtain ⟨c3, c4⟩ := twoR_cell RH.out
      have hb5 : b = false ∨ (b = true ∧ decide (lo1 < lo2) = false ∧ decide (hi2 < hi1) = false) := by
        cases b
        · exact .inl rfl
        · have := m5 rfl
          exact .inr ⟨rfl, decide_eq_false (by omega), decide_eq_false (by omega)⟩
      rcases hb5 with rfl | ⟨rfl, e1, e2⟩
      case' inl => have e1 := True.intro; have e2 := True.intro
      all_goals
        go_upto_region 10 with (fail)
        clear c1 c2 c3 c4 e1 e2 T2 RH
        go_wp2_with fail
        refine (HAM.out _).mono ?_
        rintro e w9 ⟨rfl, hb⟩
        have HB := Lib.hid (HB.out.trans (hb.mono HB.out.size))
        have T1 := Lib.hid (two_step T1.out hb)
        have RG := Lib.hid (twoR_step RG.out hb)
        clear hb
        go_wp2_with fail
        refine (HSA.out _).mono ?_
        rintro e w10 ⟨rfl, hb⟩
        have HB := Lib.hid (HB.out.trans (hb.mono HB.out.size))
        have T1 := Lib.hid (two_step T1.out hb)
        have RG := Lib.hid (twoR_step RG.out hb)
        clear hb
        go_wp2_with fail
        refine (HCH.out _).mono ?_
        rintro e w11 ⟨rfl, hb⟩
        have HB := Lib.hid (HB.out.trans (hb.mono HB.out.size))
        have T1 := Lib.hid (two_step T1.out hb)
        have RG := Lib.hid (twoR_step RG.out hb)
        clear hb
        go_wp2_with fail
        refine (HRC.out _).mono ?_
        rintro e w12 ⟨rfl, ⟨nd1, rfl⟩⟩
        go_wp2_with fail
        refine (HRU.out _).mono ?_
        rintro e w13 ⟨rfl, ⟨nd2, rfl⟩⟩
        go_wp2_with fail
        refine (HRJ.out _).mono ?_
        rintro e w14 ⟨rfl, ⟨nd3, rfl⟩⟩
        go_upto_region 15 with (fail)
        obtain ⟨W15, hw⟩ : ∃ X, X = w11.drewN (nd1 + nd2 + nd3) := ⟨_, rfl⟩
        rw [← hw]
        have hb : Below w11.heap.size w11 W15 := by rw [hw]; exact below_drewN (Below.refl _ _) _
        have HB := Lib.hid (HB.out.trans (hb.mono HB.out.size))
        have T1 := Lib.hid (two_step T1.out hb)
        have RG := Lib.hid (twoR_step RG.out hb)
        clear hw hb
        obtain ⟨c1, c2, -, -⟩ := two_cell T1.out
        have c1 := kept_cell' c1
        have c2 := kept_cell' c2
        obtain ⟨hs1, hs2⟩ := HS1.out
        refine wp_region_kept W15.heap.size W15 (by kernel_rfl) (by kernel_rfl) (Below.refl _ _) ?_
        repeat (go_big_quiet_step (first | with_reducible exact kept_calls _ (Nat.le_refl _) (HRA.out _) | with_reducible exact kept_calls _ (Nat.le_refl _) (HRB.out _)))
        refine wpQuiet_nil ?_
        rintro _ ⟨X, rfl⟩
        obtain ⟨W16, hX⟩ : ∃ Y, Y = X.1 := ⟨_, rfl⟩
        rw [← hX]
        have hb : Below W15.heap.size W15 W16 := by rw [hX]; exact X.2
        have HB := Lib.hid (HB.out.trans (hb.mono HB.out.size))
        have RG := Lib.hid (twoR_step RG.out hb)
        clear hX hb c1 c2 hs1 hs2
        obtain ⟨c3, c4⟩ := twoR_cell RG.out
        go_wp2_with fail
        refine (works_any _).mono ?_
        rintro e W17 ⟨rfl, hb⟩
        have HB := Lib.hid (HB.out.trans (hb.mono HB.out.size))
        clear hb
        go_wp2
        go_ret
        exact ⟨rfl, HB.out⟩
end Go.Proofs.Ytmgdidhhgdpobaa.Hand

