/- The row and the tied card of TallyKnown: its walk, over every argument, the variables as they are laid. -/
import Derived.Test.YtcbhnhoicecnnaaDoorZC7
import Derived.Test.YtcbhnhoicecnnaaDoorCards
import Derived.Test.YtcbhnhoicecnnaaDoorRows
import Derived.Test.YtcbhnhoicecnnaaDoorTie
import Derived.SevenTiedAt
set_option linter.unusedVariables false
set_option linter.unusedSimpArgs false
namespace Go.Proofs.YtcbhnhoicecnnaaDoor.Hand
set_option linter.unusedVariables false
set_option linter.unusedSimpArgs false
open Go.RowKit Go.Shelf Go.Maps Go.Proofs.YtcbhnhoicecnnaaDoorW.PrintWords Go.Proofs.YtcbhnhoicecnnaaDoorW.PrintLast Go.Proofs.YtcbhnhoicecnnaaDoorW.PrintMore Go.Proofs.YtcbhnhoicecnnaaDoor.PrK
theorem sx3_at (i : Nat) (lo hi : Int) (hl : lo ≤ hi) (h2 : hi ≤ lo + 1) (ha : tat [1, 4, 2, 2] i = lo ∧ tat [0, 5, 3, 1] i = hi ∨ tat [1, 4, 2, 2] i = hi ∧ tat [0, 5, 3, 1] i = lo) (hU : ∀ U, Held (Sx 3) U → lo ≤ U i ∧ U i ≤ hi) : Ends (Sx 3) (kCell (Sx 3).m i) lo hi := by
  refine ⟨hl, fun v h1 h3 => ?_, fun U hh => ?_⟩
  · have hv : v = lo ∨ v = hi := by omega
    rcases hv with rfl | rfl
    · rcases ha with ha | ha
      · exact ⟨_, sx3_a, by rw [kCell_at]; exact ha.1⟩
      · exact ⟨_, sx3_b, by rw [kCell_at]; exact ha.2⟩
    · rcases ha with ha | ha
      · exact ⟨_, sx3_b, by rw [kCell_at]; exact ha.2⟩
      · exact ⟨_, sx3_a, by rw [kCell_at]; exact ha.1⟩
  · rw [kCell_at]; exact hU U hh
theorem sx3_e0 : Ends (Sx 3) (kCell (Sx 3).m 0) 0 1 := sx3_at 0 0 1 (by decide) (by decide) (.inr (by decide)) fun U h => by have := sx3_held h; omega
theorem sx3_e2 : Ends (Sx 3) (kCell (Sx 3).m 2) 2 3 := sx3_at 2 2 3 (by decide) (by decide) (.inl (by decide)) fun U h => by have := sx3_held h; omega
theorem sx3_e3 : Ends (Sx 3) (kCell (Sx 3).m 3) 1 2 := sx3_at 3 1 2 (by decide) (by decide) (.inr (by decide)) fun U h => by have := sx3_held h; omega
set_option maxHeartbeats 16000000 in
set_option maxRecDepth 100000 in
theorem known_any (w : World) (hv : VarsAt w) : Calls Tryd.prog 15 #[] w fun e w' => e = .returned (.bool true) ∧ Below w.heap.size w w' := by
  have HV0 := Lib.hid hv
  have HWk : Hid (∀ V, Below w.heap.size w V → Calls Tryd.prog 17 #[] V fun e w' => e = .returned (.bool true) ∧ Below V.heap.size V w') := Lib.hid fun V hV => works_any V (hv.below hV)
  clear hv
  go_enter Tryd.func15, Tryd.ntmps15
  go_wp2_with fail
  refine (sheet_any 3 w).mono ?_
  rintro e v0 ⟨s, rfl, hsh, hrs, hb0⟩
  have H0 := Lib.hid (And.intro hsh (And.intro hrs hb0))
  clear hsh hrs hb0
  go_wp2_with fail
  refine (sheet_any 1 v0).mono ?_
  rintro e v1 ⟨t, rfl, hsh, hrs, hb0⟩
  have H1 := Lib.hid (And.intro hsh (And.intro hrs hb0))
  clear hsh hrs hb0
  obtain ⟨W2, hW2⟩ : ∃ W2, W2 = (v1.alloc (.cells #[.slice s.A0 s.l0.length s.c0, .slice s.A1 s.l1.length s.c1, .int .i64 s.a2, .int .i64 s.a3, .slice s.A4 s.l4.length s.c4] 26)).alloc (.cells #[.slice t.A0 t.l0.length t.c0, .slice t.A1 t.l1.length t.c1, .int .i64 t.a2, .int .i64 t.a3, .slice t.A4 t.l4.length t.c4] 26) := ⟨_, rfl⟩
  obtain ⟨b1, hb1⟩ : ∃ b1, b1 = v1.heap.size := ⟨_, rfl⟩
  obtain ⟨b2, hb2⟩ : ∃ b2, b2 = b1 + 1 := ⟨_, rfl⟩
  have hbx : Below v1.heap.size v1 W2 := by rw [hW2]; exact ((Below.refl _ _).alloc (Nat.le_refl _) _).alloc (by simp) _
  have HV : Hid (WkAt w b1 b2 s t W2) := Lib.hid (by
    have h1 := H0.out.2.2.trans (H1.out.2.2.mono H0.out.2.2.size)
    have h2 := h1.trans (hbx.mono h1.size)
    refine ⟨?_, ?_, (H0.out.2.1.below H1.out.2.2).below hbx, H1.out.2.1.below hbx, HV0.out.below h2, h2⟩
    · rw [hW2, hb1]; exact heap_past (box_new v1 s) _
    · rw [hW2, hb2, hb1]
      have h3 := box_new (v1.alloc (.cells #[.slice s.A0 s.l0.length s.c0, .slice s.A1 s.l1.length s.c1, .int .i64 s.a2, .int .i64 s.a3, .slice s.A4 s.l4.length s.c4] 26)) t
      rw [World.size_alloc] at h3
      exact h3)
  have HSH : Hid (s.sh = Sx 3 ∧ t.sh = Sx 1) := Lib.hid ⟨H0.out.1, H1.out.1⟩
  clear hbx H0 H1
  go_upto_region 2 with fail
  rw [← hW2, ← hb1, ← hb2]
  clear hW2 hb1 hb2
  have HOK : Hid (s.Ok ∧ t.Ok ∧ s.l0.length = 2 ∧ s.l1.length = 2 ∧ s.l4.length = 4 ∧ t.l0.length = 2 ∧ t.l1.length = 2 ∧ t.l4.length = 4) := Lib.hid ⟨by rw [ShM.Ok, HSH.out.1]; exact sx_ok (by decide), by rw [ShM.Ok, HSH.out.2]; exact sx_ok (by decide), by rw [← s.len0, HSH.out.1]; rfl, by rw [← s.len1, HSH.out.1]; rfl, by rw [← s.len4, HSH.out.1]; rfl, by rw [← t.len0, HSH.out.2]; rfl, by rw [← t.len1, HSH.out.2]; rfl, by rw [← t.len4, HSH.out.2]; rfl⟩
  have x0 := HV.out.y.c0
  have x1 := HV.out.y.c1
  have x2 := HV.out.y.c2
  have x3 := HV.out.y.c3
  have x4 := HV.out.y.c4
  obtain ⟨U2, hU2⟩ : ∃ U, U = W2.alloc (.cells (nums .i64 [1, 4, 2, 2]).toArray 2) := ⟨_, rfl⟩
  have hl2 : Kd.C (Kd.int .i64) U2 (some ⟨W2.heap.size, 0, none⟩) [1, 4, 2, 2].length [1, 4, 2, 2] := by rw [hU2]; exact reads_lit (by decide)
  have hb2 : Below W2.heap.size W2 U2 := by rw [hU2]; exact (Below.refl _ _).alloc (Nat.le_refl _) _
  have HC2 := Lib.hid (wrongT_any t _ 4 [1, 4, 2, 2] U2 (HV.out.rt.below hb2) HOK.out.2.1 hl2 (by decide) HOK.out.2.2.2.2.2.2.2.symm 2 0 (.inl ⟨by rw [HSH.out.2]; exact in4 rfl (by decide), by rw [HSH.out.2, wrong4]; decide, rfl⟩))
  have HU2 := Lib.hid hb2
  clear hl2 hb2
  simp only [nums, List.map_cons, List.map_nil] at hU2
  go_upto_region 3 with (go_at_call 18; rw [← hU2]; refine HC2.out.mono ?_; rintro e v2 ⟨rfl, h1⟩; have Hv2 := Lib.hid (HU2.out.trans (h1.mono HU2.out.size)); clear h1 hU2)
  clear x0 x1 x2 x3 x4
  replace HV := Lib.hid (HV.out.below Hv2.out)
  have x0 := HV.out.x.c0
  have x1 := HV.out.x.c1
  have x2 := HV.out.x.c2
  have x3 := HV.out.x.c3
  have x4 := HV.out.x.c4
  have HC3 := Lib.hid (off_ok s v2 HV.out.v HV.out.rs HOK.out.1 0 (by rw [HSH.out.1, sx3_off]))
  go_upto_region 4 with (go_at_call 25; refine HC3.out.mono ?_; rintro e v3 ⟨rfl, h1⟩; have Hv3 := Lib.hid h1; clear h1)
  clear x0 x1 x2 x3 x4
  replace HV := Lib.hid (HV.out.below Hv3.out)
  have x0 := HV.out.x.c0
  have x1 := HV.out.x.c1
  have x2 := HV.out.x.c2
  have x3 := HV.out.x.c3
  have x4 := HV.out.x.c4
  obtain ⟨U4, hU4⟩ : ∃ U, U = v3.alloc (.cells (nums .i64 [0, 1, (-1), 0, 0]).toArray 3) := ⟨_, rfl⟩
  have hl4 : Kd.C (Kd.int .i64) U4 (some ⟨v3.heap.size, 0, none⟩) [0, 1, (-1 : Int), 0, 0].length [0, 1, (-1), 0, 0] := by rw [hU4]; exact reads_lit (by decide)
  have hb4 : Below v3.heap.size v3 U4 := by rw [hU4]; exact (Below.refl _ _).alloc (Nat.le_refl _) _
  have HC4 := Lib.hid (weightsT_any s _ 5 [0, 1, (-1), 0, 0] U4 (HV.out.rs.below hb4) HOK.out.1 hl4 (by decide) (by rw [HOK.out.2.2.1, HOK.out.2.2.2.1]; rfl) (-1) 0 (.inl ⟨inW3_of (by unfold In3; decide), by rw [HSH.out.1, HOK.out.2.2.1, HOK.out.2.2.2.1]; decide, rfl⟩))
  have HU4 := Lib.hid hb4
  clear hl4 hb4
  simp only [nums, List.map_cons, List.map_nil] at hU4
  go_upto_region 5 with (go_at_call 22; rw [← hU4]; refine HC4.out.mono ?_; rintro e v4 ⟨rfl, h1⟩; have Hv4 := Lib.hid (HU4.out.trans (h1.mono HU4.out.size)); clear h1 hU4)
  clear x0 x1 x2 x3 x4
  replace HV := Lib.hid (HV.out.below Hv4.out)
  have x0 := HV.out.x.c0
  have x1 := HV.out.x.c1
  have x2 := HV.out.x.c2
  have x3 := HV.out.x.c3
  have x4 := HV.out.x.c4
  obtain ⟨U5, hU5⟩ : ∃ U, U = v4.alloc (.cells (nums .i64 [0, 0, 0, 0, 0]).toArray 3) := ⟨_, rfl⟩
  have hl5 : Kd.C (Kd.int .i64) U5 (some ⟨v4.heap.size, 0, none⟩) [0, 0, 0, 0, 0].length [0, 0, 0, 0, 0] := by rw [hU5]; exact reads_lit (by decide)
  have hb5 : Below v4.heap.size v4 U5 := by rw [hU5]; exact (Below.refl _ _).alloc (Nat.le_refl _) _
  have HC5 := Lib.hid (weightsT_any s _ 5 [0, 0, 0, 0, 0] U5 (HV.out.rs.below hb5) HOK.out.1 hl5 (by decide) (by rw [HOK.out.2.2.1, HOK.out.2.2.2.1]; rfl) 0 0 (.inl ⟨inW3_of (by unfold In3; decide), by rw [HSH.out.1, HOK.out.2.2.1, HOK.out.2.2.2.1]; decide, rfl⟩))
  have HU5 := Lib.hid hb5
  clear hl5 hb5
  simp only [nums, List.map_cons, List.map_nil] at hU5
  go_upto_region 6 with (go_at_call 22; rw [← hU5]; refine HC5.out.mono ?_; rintro e v5 ⟨rfl, h1⟩; have Hv5 := Lib.hid (HU5.out.trans (h1.mono HU5.out.size)); clear h1 hU5)
  clear x0 x1 x2 x3 x4
  replace HV := Lib.hid (HV.out.below Hv5.out)
  have x0 := HV.out.x.c0
  have x1 := HV.out.x.c1
  have x2 := HV.out.x.c2
  have x3 := HV.out.x.c3
  have x4 := HV.out.x.c4
  have HC6 : Hid (Calls Tryd.prog 29 #[.agg #[.slice s.A0 s.l0.length s.c0, .slice s.A1 s.l1.length s.c1, .int .i64 s.a2, .int .i64 s.a3, .slice s.A4 s.l4.length s.c4], .int .i64 0, .int .i64 0] v5 fun e w' => e = .returned (.tuple #[.agg #[.int .i64 0, .int .i64 1], .int .i64 0]) ∧ Below v5.heap.size v5 w') := Lib.hid (spanT_ok s 0 0 0 v5 HV.out.v HV.out.rs HOK.out.1 (by rw [HOK.out.2.2.1]; decide) (by rw [HOK.out.2.2.2.1]; decide) (by rw [HOK.out.2.2.2.1]) (by rw [HSH.out.1]; exact sx3_off) 0 1 (by rw [HSH.out.1]; exact sx3_e0))
  go_upto_region 7 with (go_at_call 29; refine HC6.out.mono ?_; rintro e v6 ⟨rfl, h1⟩; have Hv6 := Lib.hid h1; clear h1)
  clear x0 x1 x2 x3 x4
  obtain ⟨X6, hX6⟩ : ∃ X, X = v6.alloc (.cells #[.int .i64 0, .int .i64 1] 24) := ⟨_, rfl⟩
  obtain ⟨r6, hr6⟩ : ∃ r, r = v6.heap.size := ⟨_, rfl⟩
  have hb : Below v6.heap.size v6 X6 := by rw [hX6]; exact (Below.refl _ _).alloc (Nat.le_refl _) _
  have hq : X6.heap[r6]? = some (.cells #[.int .i64 0, .int .i64 1] 24 (0, 0)) := by rw [hX6, hr6]; exact heap_alloc_last _ _
  have HR6 := Lib.hid hq
  have Hb6 : Hid (Below v5.heap.size v5 X6) := Lib.hid (Hv6.out.trans (hb.mono Hv6.out.size))
  replace HV := Lib.hid (HV.out.below Hb6.out)
  rw [← hX6, ← hr6]
  clear hX6 hr6 hb hq
  have x0 := HV.out.x.c0
  have x1 := HV.out.x.c1
  have x2 := HV.out.x.c2
  have x3 := HV.out.x.c3
  have x4 := HV.out.x.c4
  have HC7 : Hid (Calls Tryd.prog 29 #[.agg #[.slice s.A0 s.l0.length s.c0, .slice s.A1 s.l1.length s.c1, .int .i64 s.a2, .int .i64 s.a3, .slice s.A4 s.l4.length s.c4], .int .i64 1, .int .i64 0] X6 fun e w' => e = .returned (.tuple #[.agg #[.int .i64 2, .int .i64 3], .int .i64 0]) ∧ Below X6.heap.size X6 w') := Lib.hid (spanT_ok s 2 1 0 X6 HV.out.v HV.out.rs HOK.out.1 (by rw [HOK.out.2.2.1]; decide) (by rw [HOK.out.2.2.2.1]; decide) (by rw [HOK.out.2.2.2.1]) (by rw [HSH.out.1]; exact sx3_off) 2 3 (by rw [HSH.out.1]; exact sx3_e2))
  go_upto_region 8 with (go_at_call 29; refine HC7.out.mono ?_; rintro e v7 ⟨rfl, h1⟩; have Hv7 := Lib.hid h1; clear h1)
  clear x0 x1 x2 x3 x4
  obtain ⟨X7, hX7⟩ : ∃ X, X = v7.alloc (.cells #[.int .i64 2, .int .i64 3] 24) := ⟨_, rfl⟩
  obtain ⟨r7, hr7⟩ : ∃ r, r = v7.heap.size := ⟨_, rfl⟩
  have hb : Below v7.heap.size v7 X7 := by rw [hX7]; exact (Below.refl _ _).alloc (Nat.le_refl _) _
  have hq : X7.heap[r7]? = some (.cells #[.int .i64 2, .int .i64 3] 24 (0, 0)) := by rw [hX7, hr7]; exact heap_alloc_last _ _
  have HR7 := Lib.hid hq
  have Hb7 : Hid (Below X6.heap.size X6 X7) := Lib.hid (Hv7.out.trans (hb.mono Hv7.out.size))
  replace HV := Lib.hid (HV.out.below Hb7.out)
  rw [← hX7, ← hr7]
  clear hX7 hr7 hb hq
  have x0 := HV.out.x.c0
  have x1 := HV.out.x.c1
  have x2 := HV.out.x.c2
  have x3 := HV.out.x.c3
  have x4 := HV.out.x.c4
  have HC8 : Hid (Calls Tryd.prog 29 #[.agg #[.slice s.A0 s.l0.length s.c0, .slice s.A1 s.l1.length s.c1, .int .i64 s.a2, .int .i64 s.a3, .slice s.A4 s.l4.length s.c4], .int .i64 1, .int .i64 1] X7 fun e w' => e = .returned (.tuple #[.agg #[.int .i64 1, .int .i64 2], .int .i64 0]) ∧ Below X7.heap.size X7 w') := Lib.hid (spanT_ok s 3 1 1 X7 HV.out.v HV.out.rs HOK.out.1 (by rw [HOK.out.2.2.1]; decide) (by rw [HOK.out.2.2.2.1]; decide) (by rw [HOK.out.2.2.2.1]) (by rw [HSH.out.1]; exact sx3_off) 1 2 (by rw [HSH.out.1]; exact sx3_e3))
  go_upto_region 9 with (go_at_call 29; refine HC8.out.mono ?_; rintro e v8 ⟨rfl, h1⟩; have Hv8 := Lib.hid h1; clear h1)
  clear x0 x1 x2 x3 x4
  obtain ⟨X8, hX8⟩ : ∃ X, X = v8.alloc (.cells #[.int .i64 1, .int .i64 2] 24) := ⟨_, rfl⟩
  obtain ⟨r8, hr8⟩ : ∃ r, r = v8.heap.size := ⟨_, rfl⟩
  have hb : Below v8.heap.size v8 X8 := by rw [hX8]; exact (Below.refl _ _).alloc (Nat.le_refl _) _
  have hq : X8.heap[r8]? = some (.cells #[.int .i64 1, .int .i64 2] 24 (0, 0)) := by rw [hX8, hr8]; exact heap_alloc_last _ _
  have HR8 := Lib.hid hq
  have Hb8 : Hid (Below X7.heap.size X7 X8) := Lib.hid (Hv8.out.trans (hb.mono Hv8.out.size))
  replace HV := Lib.hid (HV.out.below Hb8.out)
  rw [← hX8, ← hr8]
  clear hX8 hr8 hb hq
  have HQ : Hid (X8.heap[r6]? = some (.cells #[.int .i64 0, .int .i64 1] 24 (0, 0)) ∧ X8.heap[r7]? = some (.cells #[.int .i64 2, .int .i64 3] 24 (0, 0)) ∧ X8.heap[r8]? = some (.cells #[.int .i64 1, .int .i64 2] 24 (0, 0))) := Lib.hid (by
    have hy : Below X6.heap.size X6 X8 := Hb7.out.trans (Hb8.out.mono Hb7.out.size)
    exact ⟨(hy.block _ (heap_lt HR6.out)).trans HR6.out, (Hb8.out.block _ (heap_lt HR7.out)).trans HR7.out, HR8.out⟩)
  have p0 : X8.cell? ⟨r6, 0, none⟩ = some (.int .i64 0) := by rw [cell_of_row _ _ _ _ _ _ HQ.out.1]; rfl
  have p1 : X8.cell? ⟨r6, 1, none⟩ = some (.int .i64 1) := by rw [cell_of_row _ _ _ _ _ _ HQ.out.1]; rfl
  have q0 : X8.cell? ⟨r7, 0, none⟩ = some (.int .i64 2) := by rw [cell_of_row _ _ _ _ _ _ HQ.out.2.1]; rfl
  have q1 : X8.cell? ⟨r7, 1, none⟩ = some (.int .i64 3) := by rw [cell_of_row _ _ _ _ _ _ HQ.out.2.1]; rfl
  have s0 : X8.cell? ⟨r8, 0, none⟩ = some (.int .i64 1) := by rw [cell_of_row _ _ _ _ _ _ HQ.out.2.2]; rfl
  have s1 : X8.cell? ⟨r8, 1, none⟩ = some (.int .i64 2) := by rw [cell_of_row _ _ _ _ _ _ HQ.out.2.2]; rfl
  go_upto_region 9 with fail
  have hS : Below X8.heap.size X8 X8.drew := (Below.refl _ _).drew
  refine wp_region_held_list (k := 61) rfl (fun w' => Below X8.heap.size X8 w') (by kernel_rfl) ?_
  generalize X8.drew = W0 at hS ⊢
  refine take_list (i := 0) (v := .int .i64 0) rfl (by kernel_rfl) (by kernel_rfl) (by kernel_rfl) (fun _ _ _ h => h) (by rfl) (by intro w' hw'; go_simp) hS ?_
  (try simp only [Act.put, List.setIfInBounds_toArray, List.set_cons_zero, List.set_cons_succ])
  refine take_list (i := 1) (v := .bool true) rfl (by kernel_rfl) (by kernel_rfl) (by kernel_rfl) (fun _ _ _ h => h) (by rfl) (by intro w' hw'; go_simp) hS ?_
  (try simp only [Act.put, List.setIfInBounds_toArray, List.set_cons_zero, List.set_cons_succ])
  refine take_list (i := 2) (v := .bool true) rfl (by kernel_rfl) (by kernel_rfl) (by kernel_rfl) (fun _ _ _ h => h) (by rfl) (by intro w' hw'; go_simp) hS ?_
  (try simp only [Act.put, List.setIfInBounds_toArray, List.set_cons_zero, List.set_cons_succ])
  refine take_list (i := 3) (v := .int .i64 0) rfl (by kernel_rfl) (by kernel_rfl) (by kernel_rfl) (fun _ _ _ h => h) (by rfl) (by intro w' hw'; go_simp) hS ?_
  (try simp only [Act.put, List.setIfInBounds_toArray, List.set_cons_zero, List.set_cons_succ])
  refine take_list (i := 4) (v := .bool true) rfl (by kernel_rfl) (by kernel_rfl) (by kernel_rfl) (fun _ _ _ h => h) (by rfl) (by intro w' hw'; go_simp) hS ?_
  (try simp only [Act.put, List.setIfInBounds_toArray, List.set_cons_zero, List.set_cons_succ])
  refine take_list (i := 5) (v := .bool true) rfl (by kernel_rfl) (by kernel_rfl) (by kernel_rfl) (fun _ _ _ h => h) (by rfl) (by intro w' hw'; go_simp) hS ?_
  (try simp only [Act.put, List.setIfInBounds_toArray, List.set_cons_zero, List.set_cons_succ])
  refine take_list (i := 6) (v := .bool true) rfl (by kernel_rfl) (by kernel_rfl) (by kernel_rfl) (fun _ _ _ h => h) (by rfl) (by intro w' hw'; go_simp) hS ?_
  (try simp only [Act.put, List.setIfInBounds_toArray, List.set_cons_zero, List.set_cons_succ])
  refine take_list (i := 7) (v := .int .i64 0) rfl (by kernel_rfl) (by kernel_rfl) (by kernel_rfl) (fun _ _ _ h => h) (by rfl) (by intro w' hw'; go_simp) hS ?_
  (try simp only [Act.put, List.setIfInBounds_toArray, List.set_cons_zero, List.set_cons_succ])
  refine take_list (i := 8) (v := .bool true) rfl (by kernel_rfl) (by kernel_rfl) (by kernel_rfl) (fun _ _ _ h => h) (by rfl) (by intro w' hw'; go_simp) hS ?_
  (try simp only [Act.put, List.setIfInBounds_toArray, List.set_cons_zero, List.set_cons_succ])
  refine take_list (i := 9) (v := .bool true) rfl (by kernel_rfl) (by kernel_rfl) (by kernel_rfl) (fun _ _ _ h => h) (by rfl) (by intro w' hw'; go_simp) hS ?_
  (try simp only [Act.put, List.setIfInBounds_toArray, List.set_cons_zero, List.set_cons_succ])
  refine take_list (i := 10) (v := .bool true) rfl (by kernel_rfl) (by kernel_rfl) (by kernel_rfl) (fun _ _ _ h => h) (by rfl) (by intro w' hw'; go_simp) hS ?_
  (try simp only [Act.put, List.setIfInBounds_toArray, List.set_cons_zero, List.set_cons_succ])
  refine take_list (i := 11) (v := .int .i64 0) rfl (by kernel_rfl) (by kernel_rfl) (by kernel_rfl) (fun _ _ _ h => h) (by rfl) (by intro w' hw'; go_simp) hS ?_
  (try simp only [Act.put, List.setIfInBounds_toArray, List.set_cons_zero, List.set_cons_succ])
  refine take_list (i := 12) (v := .bool true) rfl (by kernel_rfl) (by kernel_rfl) (by kernel_rfl) (fun _ _ _ h => h) (by rfl) (by intro w' hw'; go_simp) hS ?_
  (try simp only [Act.put, List.setIfInBounds_toArray, List.set_cons_zero, List.set_cons_succ])
  refine take_list (i := 13) (v := .bool true) rfl (by kernel_rfl) (by kernel_rfl) (by kernel_rfl) (fun _ _ _ h => h) (by rfl) (by intro w' hw'; go_simp) hS ?_
  (try simp only [Act.put, List.setIfInBounds_toArray, List.set_cons_zero, List.set_cons_succ])
  refine take_list (i := 14) (v := .bool true) rfl (by kernel_rfl) (by kernel_rfl) (by kernel_rfl) (fun _ _ _ h => h) (by rfl) (by intro w' hw'; go_simp) hS ?_
  (try simp only [Act.put, List.setIfInBounds_toArray, List.set_cons_zero, List.set_cons_succ])
  refine take_list (i := 15) (v := .int .i64 0) rfl (by kernel_rfl) (by kernel_rfl) (by kernel_rfl) (fun _ _ _ h => h) (by rfl) (by intro w' hw'; go_simp) hS ?_
  (try simp only [Act.put, List.setIfInBounds_toArray, List.set_cons_zero, List.set_cons_succ])
  refine take_list (i := 16) (v := .bool true) rfl (by kernel_rfl) (by kernel_rfl) (by kernel_rfl) (fun _ _ _ h => h) (by rfl) (by intro w' hw'; go_simp) hS ?_
  (try simp only [Act.put, List.setIfInBounds_toArray, List.set_cons_zero, List.set_cons_succ])
  refine take_list (i := 17) (v := .bool true) rfl (by kernel_rfl) (by kernel_rfl) (by kernel_rfl) (fun _ _ _ h => h) (by rfl) (by intro w' hw'; go_simp) hS ?_
  (try simp only [Act.put, List.setIfInBounds_toArray, List.set_cons_zero, List.set_cons_succ])
  refine take_list (i := 18) (v := .bool true) rfl (by kernel_rfl) (by kernel_rfl) (by kernel_rfl) (fun _ _ _ h => h) (by rfl) (by intro w' hw'; go_simp) hS ?_
  (try simp only [Act.put, List.setIfInBounds_toArray, List.set_cons_zero, List.set_cons_succ])
  refine take_list (i := 19) (v := .int .i64 0) rfl (by kernel_rfl) (by kernel_rfl) (by kernel_rfl) (fun _ _ _ h => h) (by rfl) (by intro w' hw'; go_simp) hS ?_
  (try simp only [Act.put, List.setIfInBounds_toArray, List.set_cons_zero, List.set_cons_succ])
  refine take_list (i := 20) (v := .bool true) rfl (by kernel_rfl) (by kernel_rfl) (by kernel_rfl) (fun _ _ _ h => h) (by rfl) (by intro w' hw'; go_simp) hS ?_
  (try simp only [Act.put, List.setIfInBounds_toArray, List.set_cons_zero, List.set_cons_succ])
  refine take_list (i := 21) (v := .bool true) rfl (by kernel_rfl) (by kernel_rfl) (by kernel_rfl) (fun _ _ _ h => h) (by rfl) (by intro w' hw'; go_simp) hS ?_
  (try simp only [Act.put, List.setIfInBounds_toArray, List.set_cons_zero, List.set_cons_succ])
  refine take_list (i := 22) (v := .bool true) rfl (by kernel_rfl) (by kernel_rfl) (by kernel_rfl) (fun _ _ _ h => h) (by rfl) (by intro w' hw'; go_simp) hS ?_
  (try simp only [Act.put, List.setIfInBounds_toArray, List.set_cons_zero, List.set_cons_succ])
  refine take_list (i := 23) (v := .int .i64 0) rfl (by kernel_rfl) (by kernel_rfl) (by kernel_rfl) (fun _ _ _ h => h) (by rfl) (by intro w' hw'; go_simp) hS ?_
  (try simp only [Act.put, List.setIfInBounds_toArray, List.set_cons_zero, List.set_cons_succ])
  refine take_list (i := 24) (v := .bool true) rfl (by kernel_rfl) (by kernel_rfl) (by kernel_rfl) (fun _ _ _ h => h) (by rfl) (by intro w' hw'; go_simp) hS ?_
  (try simp only [Act.put, List.setIfInBounds_toArray, List.set_cons_zero, List.set_cons_succ])
  refine take_list (i := 25) (v := .bool true) rfl (by kernel_rfl) (by kernel_rfl) (by kernel_rfl) (fun _ _ _ h => h) (by rfl) (by intro w' hw'; go_simp) hS ?_
  (try simp only [Act.put, List.setIfInBounds_toArray, List.set_cons_zero, List.set_cons_succ])
  refine take_list (i := 26) (v := .bool true) rfl (by kernel_rfl) (by kernel_rfl) (by kernel_rfl) (fun _ _ _ h => h) (by rfl) (by intro w' hw'; go_simp) hS ?_
  (try simp only [Act.put, List.setIfInBounds_toArray, List.set_cons_zero, List.set_cons_succ])
  refine take_list (i := 27) (v := .int .i64 2) rfl (by kernel_rfl) (by kernel_rfl) (by kernel_rfl) (fun _ _ _ h => h) (by rfl) (by intro w' hw'; go_simp) hS ?_
  (try simp only [Act.put, List.setIfInBounds_toArray, List.set_cons_zero, List.set_cons_succ])
  refine take_list (i := 28) (v := .bool true) rfl (by kernel_rfl) (by kernel_rfl) (by kernel_rfl) (fun _ _ _ h => h) (by rfl) (by intro w' hw'; go_simp) hS ?_
  (try simp only [Act.put, List.setIfInBounds_toArray, List.set_cons_zero, List.set_cons_succ])
  refine take_list (i := 29) (v := .bool true) rfl (by kernel_rfl) (by kernel_rfl) (by kernel_rfl) (fun _ _ _ h => h) (by rfl) (by intro w' hw'; go_simp) hS ?_
  (try simp only [Act.put, List.setIfInBounds_toArray, List.set_cons_zero, List.set_cons_succ])
  refine take_list (i := 30) (v := .bool true) rfl (by kernel_rfl) (by kernel_rfl) (by kernel_rfl) (fun _ _ _ h => h) (by rfl) (by intro w' hw'; go_simp) hS ?_
  (try simp only [Act.put, List.setIfInBounds_toArray, List.set_cons_zero, List.set_cons_succ])
  refine take_list (i := 31) (v := .int .i64 0) rfl (by kernel_rfl) (by kernel_rfl) (by kernel_rfl) (fun _ _ _ h => h) (by rfl) (by intro w' hw'; go_simp) hS ?_
  (try simp only [Act.put, List.setIfInBounds_toArray, List.set_cons_zero, List.set_cons_succ])
  refine take_list (i := 32) (v := .bool true) rfl (by kernel_rfl) (by kernel_rfl) (by kernel_rfl) (fun _ _ _ h => h) (by rfl) (by intro w' hw'; go_simp) hS ?_
  (try simp only [Act.put, List.setIfInBounds_toArray, List.set_cons_zero, List.set_cons_succ])
  refine take_list (i := 33) (v := .bool true) rfl (by kernel_rfl) (by kernel_rfl) (by kernel_rfl) (fun _ _ _ h => h) (by rfl) (by intro w' hw'; go_simp) hS ?_
  (try simp only [Act.put, List.setIfInBounds_toArray, List.set_cons_zero, List.set_cons_succ])
  refine take_list (i := 34) (v := .bool true) rfl (by kernel_rfl) (by kernel_rfl) (by kernel_rfl) (fun _ _ _ h => h) (by rfl) (by intro w' hw'; go_simp) hS ?_
  (try simp only [Act.put, List.setIfInBounds_toArray, List.set_cons_zero, List.set_cons_succ])
  refine take_list (i := 35) (v := .int .i64 (-1)) rfl (by kernel_rfl) (by kernel_rfl) (by kernel_rfl) (fun _ _ _ h => h) (by rfl) (by intro w' hw'; go_simp) hS ?_
  (try simp only [Act.put, List.setIfInBounds_toArray, List.set_cons_zero, List.set_cons_succ])
  refine take_list (i := 36) (v := .bool true) rfl (by kernel_rfl) (by kernel_rfl) (by kernel_rfl) (fun _ _ _ h => h) (by rfl) (by intro w' hw'; go_simp) hS ?_
  (try simp only [Act.put, List.setIfInBounds_toArray, List.set_cons_zero, List.set_cons_succ])
  refine take_list (i := 37) (v := .bool true) rfl (by kernel_rfl) (by kernel_rfl) (by kernel_rfl) (fun _ _ _ h => h) (by rfl) (by intro w' hw'; go_simp) hS ?_
  (try simp only [Act.put, List.setIfInBounds_toArray, List.set_cons_zero, List.set_cons_succ])
  refine take_list (i := 38) (v := .bool true) rfl (by kernel_rfl) (by kernel_rfl) (by kernel_rfl) (fun _ _ _ h => h) (by rfl) (by intro w' hw'; go_simp) hS ?_
  (try simp only [Act.put, List.setIfInBounds_toArray, List.set_cons_zero, List.set_cons_succ])
  refine take_list (i := 39) (v := .int .i64 0) rfl (by kernel_rfl) (by kernel_rfl) (by kernel_rfl) (fun _ _ _ h => h) (by rfl) (by intro w' hw'; go_simp) hS ?_
  (try simp only [Act.put, List.setIfInBounds_toArray, List.set_cons_zero, List.set_cons_succ])
  refine take_list (i := 40) (v := .bool true) rfl (by kernel_rfl) (by kernel_rfl) (by kernel_rfl) (fun _ _ _ h => h) (by rfl) (by intro w' hw'; go_simp) hS ?_
  (try simp only [Act.put, List.setIfInBounds_toArray, List.set_cons_zero, List.set_cons_succ])
  refine take_list (i := 41) (v := .bool true) rfl (by kernel_rfl) (by kernel_rfl) (by kernel_rfl) (fun _ _ _ h => h) (by rfl) (by intro w' hw'; go_simp) hS ?_
  (try simp only [Act.put, List.setIfInBounds_toArray, List.set_cons_zero, List.set_cons_succ])
  refine take_list (i := 42) (v := .bool true) rfl (by kernel_rfl) (by kernel_rfl) (by kernel_rfl) (fun _ _ _ h => h) (by rfl) (by intro w' hw'; go_simp) hS ?_
  (try simp only [Act.put, List.setIfInBounds_toArray, List.set_cons_zero, List.set_cons_succ])
  refine take_list (i := 43) (v := .agg #[.int .i64 0, .int .i64 1]) rfl (by kernel_rfl) (by kernel_rfl) (by kernel_rfl) (fun _ _ _ h => h) (by rfl) (by intro w' hw'; have z0 := held_now hw' p0; have z1 := held_now hw' p1; go_simp) hS ?_
  (try simp only [Act.put, List.setIfInBounds_toArray, List.set_cons_zero, List.set_cons_succ])
  refine step_list (i := 44) (by kernel_rfl) rfl (by rfl) (fun K hK => ?_)
  go_simp
  refine (rg_any 0 1 _).mono ?_
  rintro e U44 ⟨rfl, hbu⟩
  have hS1 := hS.trans (hbu.mono hS.size)
  refine hK _ _ hS1 ?_
  clear hK K hS hbu
  (try simp only [Act.put, List.setIfInBounds_toArray, List.set_cons_zero, List.set_cons_succ])
  have hS := hS1
  clear hS1
  refine take_list (i := 45) (v := .bool true) rfl (by kernel_rfl) (by kernel_rfl) (by kernel_rfl) (fun _ _ _ h => h) (by rfl) (by intro w' hw'; go_simp) hS ?_
  (try simp only [Act.put, List.setIfInBounds_toArray, List.set_cons_zero, List.set_cons_succ])
  refine take_list (i := 46) (v := .bool true) rfl (by kernel_rfl) (by kernel_rfl) (by kernel_rfl) (fun _ _ _ h => h) (by rfl) (by intro w' hw'; go_simp) hS ?_
  (try simp only [Act.put, List.setIfInBounds_toArray, List.set_cons_zero, List.set_cons_succ])
  refine take_list (i := 47) (v := .bool true) rfl (by kernel_rfl) (by kernel_rfl) (by kernel_rfl) (fun _ _ _ h => h) (by rfl) (by intro w' hw'; go_simp) hS ?_
  (try simp only [Act.put, List.setIfInBounds_toArray, List.set_cons_zero, List.set_cons_succ])
  refine take_list (i := 48) (v := .agg #[.int .i64 2, .int .i64 3]) rfl (by kernel_rfl) (by kernel_rfl) (by kernel_rfl) (fun _ _ _ h => h) (by rfl) (by intro w' hw'; have z0 := held_now hw' q0; have z1 := held_now hw' q1; go_simp) hS ?_
  (try simp only [Act.put, List.setIfInBounds_toArray, List.set_cons_zero, List.set_cons_succ])
  refine step_list (i := 49) (by kernel_rfl) rfl (by rfl) (fun K hK => ?_)
  go_simp
  refine (rg_any 2 3 _).mono ?_
  rintro e U49 ⟨rfl, hbu⟩
  have hS1 := hS.trans (hbu.mono hS.size)
  refine hK _ _ hS1 ?_
  clear hK K hS hbu
  (try simp only [Act.put, List.setIfInBounds_toArray, List.set_cons_zero, List.set_cons_succ])
  have hS := hS1
  clear hS1
  refine take_list (i := 50) (v := .bool true) rfl (by kernel_rfl) (by kernel_rfl) (by kernel_rfl) (fun _ _ _ h => h) (by rfl) (by intro w' hw'; go_simp) hS ?_
  (try simp only [Act.put, List.setIfInBounds_toArray, List.set_cons_zero, List.set_cons_succ])
  refine take_list (i := 51) (v := .bool true) rfl (by kernel_rfl) (by kernel_rfl) (by kernel_rfl) (fun _ _ _ h => h) (by rfl) (by intro w' hw'; go_simp) hS ?_
  (try simp only [Act.put, List.setIfInBounds_toArray, List.set_cons_zero, List.set_cons_succ])
  refine take_list (i := 52) (v := .bool true) rfl (by kernel_rfl) (by kernel_rfl) (by kernel_rfl) (fun _ _ _ h => h) (by rfl) (by intro w' hw'; go_simp) hS ?_
  (try simp only [Act.put, List.setIfInBounds_toArray, List.set_cons_zero, List.set_cons_succ])
  refine take_list (i := 53) (v := .agg #[.int .i64 1, .int .i64 2]) rfl (by kernel_rfl) (by kernel_rfl) (by kernel_rfl) (fun _ _ _ h => h) (by rfl) (by intro w' hw'; have z0 := held_now hw' s0; have z1 := held_now hw' s1; go_simp) hS ?_
  (try simp only [Act.put, List.setIfInBounds_toArray, List.set_cons_zero, List.set_cons_succ])
  refine step_list (i := 54) (by kernel_rfl) rfl (by rfl) (fun K hK => ?_)
  go_simp
  refine (rg_any 1 2 _).mono ?_
  rintro e U54 ⟨rfl, hbu⟩
  have hS1 := hS.trans (hbu.mono hS.size)
  refine hK _ _ hS1 ?_
  clear hK K hS hbu
  (try simp only [Act.put, List.setIfInBounds_toArray, List.set_cons_zero, List.set_cons_succ])
  have hS := hS1
  clear hS1
  refine take_list (i := 55) (v := .bool true) rfl (by kernel_rfl) (by kernel_rfl) (by kernel_rfl) (fun _ _ _ h => h) (by rfl) (by intro w' hw'; go_simp) hS ?_
  (try simp only [Act.put, List.setIfInBounds_toArray, List.set_cons_zero, List.set_cons_succ])
  refine take_list (i := 56) (v := .bool true) rfl (by kernel_rfl) (by kernel_rfl) (by kernel_rfl) (fun _ _ _ h => h) (by rfl) (by intro w' hw'; go_simp) hS ?_
  (try simp only [Act.put, List.setIfInBounds_toArray, List.set_cons_zero, List.set_cons_succ])
  refine take_list (i := 57) (v := .bool true) rfl (by kernel_rfl) (by kernel_rfl) (by kernel_rfl) (fun _ _ _ h => h) (by rfl) (by intro w' hw'; go_simp) hS ?_
  (try simp only [Act.put, List.setIfInBounds_toArray, List.set_cons_zero, List.set_cons_succ])
  refine step_list (i := 58) (by kernel_rfl) rfl (by rfl) (fun K hK => ?_)
  go_simp
  refine (HWk.out _ (HV.out.b.trans (hS.mono HV.out.b.size))).mono ?_
  rintro e U58 ⟨rfl, hbu⟩
  have hS1 := hS.trans (hbu.mono hS.size)
  refine hK _ _ hS1 ?_
  clear hK K hS hbu
  (try simp only [Act.put, List.setIfInBounds_toArray, List.set_cons_zero, List.set_cons_succ])
  have hS := hS1
  clear hS1
  refine take_list (i := 59) (v := .bool true) rfl (by kernel_rfl) (by kernel_rfl) (by kernel_rfl) (fun _ _ _ h => h) (by rfl) (by intro w' hw'; go_simp) hS ?_
  (try simp only [Act.put, List.setIfInBounds_toArray, List.set_cons_zero, List.set_cons_succ])
  refine take_list (i := 60) (v := .bool true) rfl (by kernel_rfl) (by kernel_rfl) (by kernel_rfl) (fun _ _ _ h => h) (by rfl) (by intro w' hw'; go_simp) hS ?_
  (try simp only [Act.put, List.setIfInBounds_toArray, List.set_cons_zero, List.set_cons_succ])
  refine wpAnyH_done (by kernel_rfl) ?_ _
  have HE := Lib.hid (HV.out.b.trans (hS.mono HV.out.b.size))
  clear hS p0 p1 q0 q1 s0 s1
  go_wp2_with fail
  refine bodyPost_ret (results_tmp (t := 0) rfl _ _ _) rfl ?_
  exact ⟨rfl, HE.out⟩
end Go.Proofs.YtcbhnhoicecnnaaDoor.Hand
namespace Go.Proofs.YtcbhnhoicecnnaaDoor.tallyKnown
open Go.ChangeShapes Go.WideShapes Go.ChangeAt Go.RowKit Go.Deep Go.Proofs.YtcbhnhoicecnnaaDoorW.PrintWords Go.Proofs.YtcbhnhoicecnnaaDoor.Hand
set_option linter.unusedVariables false
set_option linter.unusedSimpArgs false
set_option maxRecDepth 100000
theorem lifted (os : Os) (started : os.Started) (H : Type) (enc : TypeId × Value → H) :
    ReturnsInHanded {} Tryd.checked os 15 .any (fun w args => (Rows.tallyKnownSpec.pre enc Tryd.prog Tryd.f15 [] false w args ∧ laidMetH Tryd.prog laidD w) ∧ sizedMet enc Tryd.prog Tryd.f15 (OpenSpec.ofChange Rows.tallyKnownSpec) false w args)
      (Rows.tallyKnownSpec.post enc Tryd.prog Tryd.f15 false true false false) := by
  refine returnsInHanded_of_change_and (C := Tryd.checked) (X := fun w _ => laidMetH Tryd.prog laidD w) (fun _ _ _ hh h => h.of_heap hh) ownD started (by kernel_rfl) Tryd.func15
    (ChangeSpec.witness_shaped (enc := enc) (C := Tryd.checked) (os := os) (X := fun w _ => laidMetH Tryd.prog laidD w) false (World.doorLaid Tryd.prog 400 os) #[] 8 rfl (World.shaped_of_RefB (by kernel_rfl) (by kernel_rfl)) (by kernel_rfl) (by kernel_rfl) (by kernel_rfl) (door_metD os _)) ?_
  intro W base args ds gs before hval0 hW _ _ hL _
  have hval : ∀ (j : Nat) t v, Tryd.f15.params[j]? = some t → args[j]? = some v → Value.okWide Tryd.prog W .any base t v := hval0
  have hW' := hW
  obtain ⟨p, q, hA0, hV, rfl, hfz, hnd⟩ := hW
  have hA : DataW.TrodAll enc Tryd.prog W 0 (fun _ => true) true Tryd.f15.params.toList args.toList ds p := hA0
  rw [Tryd.params15] at hA hval
  obtain ⟨rfl, rfl, rfl⟩ := trodAll_none hA
  obtain ⟨rfl, rfl⟩ := trodVars_none hV
  have hvars := vars_of hL
  clear hA0 hval0
  refine (Hand.known_any  W hvars ).mono fun e W' ⟨he, bel⟩ => ?_
  subst he
  exact ⟨_, rfl, _, _, _, [], _, [], hW', trodAll_mk1 (shut_bool Tryd.underlying4 _), trodAll_mk0, rfl, bel.frame _, fun h => by cases h⟩
theorem row_holds : Rows.TallyKnownSaid :=
  OpenClaim.holds_of_wide 15 Tryd.f15 rfl rfl rfl rfl rfl rfl rfl ⟨rfl, rfl, rfl, rfl, rfl⟩ rfl rfl rfl rfl rfl (by kernel_rfl) Tryd.func15 (by kernel_rfl)
    (of_decide_eq_true (by kernel_rfl)) (by unfold Func.isWrapper; first | (rw [if_pos (by decide +kernel)]; kernel_rfl) | (rw [if_neg (by decide +kernel)]; exact ⟨rfl, rfl⟩))
    (fun os started H enc _ => lifted os started H enc)
theorem proved : Rows.TallyKnownCardSaid :=
  Claim7.holds_tied_plain_at .later [] [.data, .data] true (true, "5e491ff97e15d9dbeef380c8e43fae43eecb164c938dba20fa664fd619ea33c3") false
    row_holds (fun _ h => by cases h) (by kernel_rfl) (fun _ h => by cases h) tallyKnown_row_tie rfl ⟨rfl, rfl⟩ (by kernel_rfl) rfl
    (fun f fn hf hfn => by
      obtain rfl : f = 15 := Option.some.inj ((show Tryd.prog.funcNamed "peavey/peaveylaw11.TallyKnown" = some 15 by kernel_rfl).symm.trans hf) |>.symm
      obtain rfl : fn = Tryd.f15 := (Option.some.inj (Tryd.func15.symm.trans hfn)).symm
      exact ⟨by kernel_rfl, fun j t ht => by
        rw [Tryd.params15] at ht
        exact match j, ht with
          | _ + 0, ht => by simp at ht⟩)
    (by kernel_rfl)
end Go.Proofs.YtcbhnhoicecnnaaDoor.tallyKnown
namespace Go.Proofs.YtcbhnhoicecnnaaDoor
theorem tallyKnownCard_holds : Rows.TallyKnownCardSaid := tallyKnown.proved
end Go.Proofs.YtcbhnhoicecnnaaDoor
