/- Texts of the session's, joined: what HWorks, HRow names of them, in build order (joined and cut by a program of the session's). -/
import Derived.Test.YtcbhnhoicecnnaaDoorZC5
set_option linter.unusedVariables false
set_option linter.unusedSimpArgs false
namespace Go.Proofs.YtcbhnhoicecnnaaDoor.Hand
set_option linter.unusedVariables false
set_option linter.unusedSimpArgs false
open Go.RowKit Go.Shelf Go.Maps Go.Proofs.YtcbhnhoicecnnaaDoorW.PrintWords Go.Proofs.YtcbhnhoicecnnaaDoorW.PrintLast Go.Proofs.YtcbhnhoicecnnaaDoorW.PrintMore Go.Proofs.YtcbhnhoicecnnaaDoor.PrK
structure WkAt (w0 : World) (b1 b2 : Nat) (s t : ShM) (V : World) : Prop where
  x : BoxS V b1 s
  y : BoxS V b2 t
  rs : ShR V s
  rt : ShR V t
  v : VarsAt V
  b : Below w0.heap.size w0 V
theorem WkAt.below {w0 V V' : World} {b1 b2 : Nat} {s t : ShM} (h : WkAt w0 b1 b2 s t V) (hb : Below V.heap.size V V') : WkAt w0 b1 b2 s t V' := ⟨h.x.below hb, h.y.below hb, h.rs.below hb, h.rt.below hb, h.v.below hb, h.b.trans (hb.mono h.b.size)⟩
theorem reads_lit {w : World} {xs : List Int} {e : TypeId} (hl : xs.length ≤ 1000) : Kd.C (Kd.int .i64) (w.alloc (.cells (nums .i64 xs).toArray e)) (some ⟨w.heap.size, 0, none⟩) xs.length xs :=
  Kd.C_of_reads (d := (0 : Int)) (h1 := fun _ => rfl) ⟨rfl, by omega, fun _ => ⟨_, rfl, fun j hj => by
    rw [add_plain, cell_of_row _ _ _ _ _ _ (heap_alloc_last w _)]
    simp [nums, hj, List.getD_eq_getElem?_getD]⟩⟩
theorem rg_any (a b : Int) (w : World) : Calls Tryd.prog 40 #[.int .i64 a, .int .i64 b] w fun e w' => e = .returned (.agg #[.int .i64 a, .int .i64 b]) ∧ Below w.heap.size w w' := peaveylaw11_rg.calls a b a b w rfl
set_option maxHeartbeats 16000000 in
set_option maxRecDepth 100000 in
theorem works_any (w : World) (hv : VarsAt w) : Calls Tryd.prog 17 #[] w fun e w' => e = .returned (.bool true) ∧ Below w.heap.size w w' := by
  have HV0 := Lib.hid hv
  clear hv
  go_enter Tryd.func17, Tryd.ntmps17
  go_wp2_with fail
  refine (sheet_any 3 w).mono ?_
  rintro e v0 ⟨s, rfl, hsh, hrs, hb0⟩
  have H0 := Lib.hid (And.intro hsh (And.intro hrs hb0))
  clear hsh hrs hb0
  go_wp2_with fail
  refine (sheet_any 1 v0).mono ?_
  rintro e v1 ⟨t, rfl, hsh, hrs, hb0⟩
  have H1 := Lib.hid (And.intro hsh (And.intro hrs hb0))
  clear hsh hrs hb0
  obtain ⟨W2, hW2⟩ : ∃ W2, W2 = (v1.alloc (.cells #[.slice s.A0 s.l0.length s.c0, .slice s.A1 s.l1.length s.c1, .int .i64 s.a2, .int .i64 s.a3, .slice s.A4 s.l4.length s.c4] 26)).alloc (.cells #[.slice t.A0 t.l0.length t.c0, .slice t.A1 t.l1.length t.c1, .int .i64 t.a2, .int .i64 t.a3, .slice t.A4 t.l4.length t.c4] 26) := ⟨_, rfl⟩
  obtain ⟨b1, hb1⟩ : ∃ b1, b1 = v1.heap.size := ⟨_, rfl⟩
  obtain ⟨b2, hb2⟩ : ∃ b2, b2 = b1 + 1 := ⟨_, rfl⟩
  have hbx : Below v1.heap.size v1 W2 := by rw [hW2]; exact ((Below.refl _ _).alloc (Nat.le_refl _) _).alloc (by simp) _
  have HV : Hid (WkAt w b1 b2 s t W2) := Lib.hid (by
    have h1 := H0.out.2.2.trans (H1.out.2.2.mono H0.out.2.2.size)
    have h2 := h1.trans (hbx.mono h1.size)
    refine ⟨?_, ?_, (H0.out.2.1.below H1.out.2.2).below hbx, H1.out.2.1.below hbx, HV0.out.below h2, h2⟩
    · rw [hW2, hb1]; exact heap_past (box_new v1 s) _
    · rw [hW2, hb2, hb1]
      have h3 := box_new (v1.alloc (.cells #[.slice s.A0 s.l0.length s.c0, .slice s.A1 s.l1.length s.c1, .int .i64 s.a2, .int .i64 s.a3, .slice s.A4 s.l4.length s.c4] 26)) t
      rw [World.size_alloc] at h3
      exact h3)
  have HSH : Hid (s.sh = Sx 3 ∧ t.sh = Sx 1) := Lib.hid ⟨H0.out.1, H1.out.1⟩
  clear hbx H0 H1
  go_upto_region 2 with fail
  rw [← hW2, ← hb1, ← hb2]
  clear hW2 hb1 hb2
  have HOK : Hid (s.Ok ∧ t.Ok ∧ s.l0.length = 2 ∧ s.l1.length = 2 ∧ s.l4.length = 4 ∧ t.l0.length = 2 ∧ t.l1.length = 2 ∧ t.l4.length = 4) := Lib.hid ⟨by rw [ShM.Ok, HSH.out.1]; exact sx_ok (by decide), by rw [ShM.Ok, HSH.out.2]; exact sx_ok (by decide), by rw [← s.len0, HSH.out.1]; rfl, by rw [← s.len1, HSH.out.1]; rfl, by rw [← s.len4, HSH.out.1]; rfl, by rw [← t.len0, HSH.out.2]; rfl, by rw [← t.len1, HSH.out.2]; rfl, by rw [← t.len4, HSH.out.2]; rfl⟩
  have x0 := HV.out.x.c0
  have x1 := HV.out.x.c1
  have x2 := HV.out.x.c2
  have x3 := HV.out.x.c3
  have x4 := HV.out.x.c4
  obtain ⟨U2, hU2⟩ : ∃ U, U = W2.alloc (.cells (nums .i64 [1, 4, 2, 2]).toArray 2) := ⟨_, rfl⟩
  have hl2 : Kd.C (Kd.int .i64) U2 (some ⟨W2.heap.size, 0, none⟩) [1, 4, 2, 2].length [1, 4, 2, 2] := by rw [hU2]; exact reads_lit (by decide)
  have hb2 : Below W2.heap.size W2 U2 := by rw [hU2]; exact (Below.refl _ _).alloc (Nat.le_refl _) _
  have HC2 := Lib.hid (wrongT_any s _ 4 [1, 4, 2, 2] U2 (HV.out.rs.below hb2) HOK.out.1 hl2 (by decide) HOK.out.2.2.2.2.1.symm 0 0 (.inl ⟨by rw [HSH.out.1]; exact in4 rfl (by decide), by rw [HSH.out.1, wrong4]; decide, rfl⟩))
  have HU2 := Lib.hid hb2
  clear hl2 hb2
  simp only [nums, List.map_cons, List.map_nil] at hU2
  go_upto_region 3 with (go_at_call 18; rw [← hU2]; refine HC2.out.mono ?_; rintro e v2 ⟨rfl, h1⟩; have Hv2 := Lib.hid (HU2.out.trans (h1.mono HU2.out.size)); clear h1 hU2)
  clear x0 x1 x2 x3 x4
  replace HV := Lib.hid (HV.out.below Hv2.out)
  have x0 := HV.out.x.c0
  have x1 := HV.out.x.c1
  have x2 := HV.out.x.c2
  have x3 := HV.out.x.c3
  have x4 := HV.out.x.c4
  obtain ⟨U3, hU3⟩ : ∃ U, U = v2.alloc (.cells (nums .i64 [3, 1, 0, 0]).toArray 2) := ⟨_, rfl⟩
  have hl3 : Kd.C (Kd.int .i64) U3 (some ⟨v2.heap.size, 0, none⟩) [3, 1, 0, 0].length [3, 1, 0, 0] := by rw [hU3]; exact reads_lit (by decide)
  have hb3 : Below v2.heap.size v2 U3 := by rw [hU3]; exact (Below.refl _ _).alloc (Nat.le_refl _) _
  have HC3 := Lib.hid (wrongT_any s _ 4 [3, 1, 0, 0] U3 (HV.out.rs.below hb3) HOK.out.1 hl3 (by decide) HOK.out.2.2.2.2.1.symm 14 0 (.inl ⟨by rw [HSH.out.1]; exact in4 rfl (by decide), by rw [HSH.out.1, wrong4]; decide, rfl⟩))
  have HU3 := Lib.hid hb3
  clear hl3 hb3
  simp only [nums, List.map_cons, List.map_nil] at hU3
  go_upto_region 4 with (go_at_call 18; rw [← hU3]; refine HC3.out.mono ?_; rintro e v3 ⟨rfl, h1⟩; have Hv3 := Lib.hid (HU3.out.trans (h1.mono HU3.out.size)); clear h1 hU3)
  clear x0 x1 x2 x3 x4
  replace HV := Lib.hid (HV.out.below Hv3.out)
  have x0 := HV.out.y.c0
  have x1 := HV.out.y.c1
  have x2 := HV.out.y.c2
  have x3 := HV.out.y.c3
  have x4 := HV.out.y.c4
  have HC4 := Lib.hid (off_ok t v3 HV.out.v HV.out.rt HOK.out.2.1 1 (by rw [HSH.out.2, sx1_off]))
  go_upto_region 5 with (go_at_call 25; refine HC4.out.mono ?_; rintro e v4 ⟨rfl, h1⟩; have Hv4 := Lib.hid h1; clear h1)
  clear x0 x1 x2 x3 x4
  replace HV := Lib.hid (HV.out.below Hv4.out)
  have x0 := HV.out.y.c0
  have x1 := HV.out.y.c1
  have x2 := HV.out.y.c2
  have x3 := HV.out.y.c3
  have x4 := HV.out.y.c4
  obtain ⟨U5, hU5⟩ : ∃ U, U = v4.alloc (.cells (nums .i64 [0, 1, (-1), 0, 0]).toArray 3) := ⟨_, rfl⟩
  have hl5 : Kd.C (Kd.int .i64) U5 (some ⟨v4.heap.size, 0, none⟩) [0, 1, (-1 : Int), 0, 0].length [0, 1, (-1), 0, 0] := by rw [hU5]; exact reads_lit (by decide)
  have hb5 : Below v4.heap.size v4 U5 := by rw [hU5]; exact (Below.refl _ _).alloc (Nat.le_refl _) _
  have HC5 := Lib.hid (weightsT_any t _ 5 [0, 1, -1, 0, 0] U5 (HV.out.rt.below hb5) HOK.out.2.1 hl5 (by decide) (by rw [HOK.out.2.2.2.2.2.1, HOK.out.2.2.2.2.2.2.1]; rfl) 1 0 (.inl ⟨inW3_of (by unfold In3; decide), by rw [HSH.out.2, HOK.out.2.2.2.2.2.1, HOK.out.2.2.2.2.2.2.1]; decide, rfl⟩))
  have HU5 := Lib.hid hb5
  clear hl5 hb5
  simp only [nums, List.map_cons, List.map_nil] at hU5
  go_upto_region 6 with (go_at_call 22; rw [← hU5]; refine HC5.out.mono ?_; rintro e v5 ⟨rfl, h1⟩; have Hv5 := Lib.hid (HU5.out.trans (h1.mono HU5.out.size)); clear h1 hU5)
  clear x0 x1 x2 x3 x4
  replace HV := Lib.hid (HV.out.below Hv5.out)
  have x0 := HV.out.x.c0
  have x1 := HV.out.x.c1
  have x2 := HV.out.x.c2
  have x3 := HV.out.x.c3
  have x4 := HV.out.x.c4
  have HC6 := Lib.hid (table_ok s v5 HV.out.v HV.out.rs HOK.out.1)
  go_upto_region 7 with (go_at_call 27; refine HC6.out.mono ?_; rintro e v6 ⟨T6, rfl, hx, h1⟩; have HX6 := Lib.hid hx; have Hv6 := Lib.hid h1; clear h1 hx)
  clear x0 x1 x2 x3 x4
  replace HV := Lib.hid (HV.out.below Hv6.out)
  have x0 := HV.out.y.c0
  have x1 := HV.out.y.c1
  have x2 := HV.out.y.c2
  have x3 := HV.out.y.c3
  have x4 := HV.out.y.c4
  have HC7 := Lib.hid (weights_ok t v6 HV.out.v HV.out.rt HOK.out.2.1)
  go_upto_region 8 with (go_at_call 28; refine HC7.out.mono ?_; rintro e v7 ⟨A7, c7, rfl, hx, h1⟩; have HX7 := Lib.hid (own_out hx); have Hv7 := Lib.hid h1; clear h1 hx)
  clear x0 x1 x2 x3 x4
  replace HV := Lib.hid (HV.out.below Hv7.out)
  have x0 := HV.out.x.c0
  have x1 := HV.out.x.c1
  have x2 := HV.out.x.c2
  have x3 := HV.out.x.c3
  have x4 := HV.out.x.c4
  have HC8 : Hid (Calls Tryd.prog 29 #[.agg #[.slice s.A0 s.l0.length s.c0, .slice s.A1 s.l1.length s.c1, .int .i64 s.a2, .int .i64 s.a3, .slice s.A4 s.l4.length s.c4], .int .i64 0, .int .i64 1] v7 fun e w' => e = .returned (.tuple #[.agg #[.int .i64 4, .int .i64 6], .int .i64 0]) ∧ Below v7.heap.size v7 w') := Lib.hid (spanT_ok s 1 0 1 v7 HV.out.v HV.out.rs HOK.out.1 (by rw [HOK.out.2.2.1]; decide) (by rw [HOK.out.2.2.2.1]; decide) (by omega) (by rw [HSH.out.1]; exact sx3_off) 4 6 (by rw [HSH.out.1]; exact sx3_span))
  go_upto_region 9 with (go_at_call 29; refine HC8.out.mono ?_; rintro e v8 ⟨rfl, h1⟩; have Hv8 := Lib.hid h1; clear h1)
  clear x0 x1 x2 x3 x4
  obtain ⟨X8, hX8⟩ : ∃ X, X = v8.alloc (.cells #[.int .i64 4, .int .i64 6] 24) := ⟨_, rfl⟩
  obtain ⟨r8, hr8⟩ : ∃ r, r = v8.heap.size := ⟨_, rfl⟩
  have hb : Below v8.heap.size v8 X8 := by rw [hX8]; exact (Below.refl _ _).alloc (Nat.le_refl _) _
  have hq : X8.heap[r8]? = some (.cells #[.int .i64 4, .int .i64 6] 24 (0, 0)) := by rw [hX8, hr8]; exact heap_alloc_last _ _
  have HR8 := Lib.hid hq
  have Hb8 : Hid (Below v7.heap.size v7 X8) := Lib.hid (Hv8.out.trans (hb.mono Hv8.out.size))
  replace HV := Lib.hid (HV.out.below Hb8.out)
  rw [← hX8, ← hr8]
  clear hX8 hr8 hb hq
  have x0 := HV.out.y.c0
  have x1 := HV.out.y.c1
  have x2 := HV.out.y.c2
  have x3 := HV.out.y.c3
  have x4 := HV.out.y.c4
  have HC9 : Hid (Calls Tryd.prog 29 #[.agg #[.slice t.A0 t.l0.length t.c0, .slice t.A1 t.l1.length t.c1, .int .i64 t.a2, .int .i64 t.a3, .slice t.A4 t.l4.length t.c4], .int .i64 0, .int .i64 0] X8 fun e w' => e = .returned (.tuple #[.agg #[.int .i64 0, .int .i64 0], .int .i64 24]) ∧ Below X8.heap.size X8 w') := Lib.hid (spanT_not t 0 0 X8 HV.out.v HV.out.rt HOK.out.2.1 (by rw [HOK.out.2.2.2.2.2.1]; decide) (by rw [HOK.out.2.2.2.2.2.2.1]; decide) (by rw [HSH.out.2, sx1_off]; decide))
  go_upto_region 10 with (go_at_call 29; refine HC9.out.mono ?_; rintro e v9 ⟨rfl, h1⟩; have Hv9 := Lib.hid h1; clear h1)
  clear x0 x1 x2 x3 x4
  obtain ⟨X9, hX9⟩ : ∃ X, X = v9.alloc (.cells #[.int .i64 0, .int .i64 0] 24) := ⟨_, rfl⟩
  obtain ⟨r9, hr9⟩ : ∃ r, r = v9.heap.size := ⟨_, rfl⟩
  have hb : Below v9.heap.size v9 X9 := by rw [hX9]; exact (Below.refl _ _).alloc (Nat.le_refl _) _
  have hq : X9.heap[r9]? = some (.cells #[.int .i64 0, .int .i64 0] 24 (0, 0)) := by rw [hX9, hr9]; exact heap_alloc_last _ _
  have HR9 := Lib.hid hq
  have Hb9 : Hid (Below X8.heap.size X8 X9) := Lib.hid (Hv9.out.trans (hb.mono Hv9.out.size))
  replace HV := Lib.hid (HV.out.below Hb9.out)
  rw [← hX9, ← hr9]
  clear hX9 hr9 hb hq
  have x0 := HV.out.x.c0
  have x1 := HV.out.x.c1
  have x2 := HV.out.x.c2
  have x3 := HV.out.x.c3
  have x4 := HV.out.x.c4
  have HC10 : Hid (Calls Tryd.prog 33 #[.agg #[.slice s.A0 s.l0.length s.c0, .slice s.A1 s.l1.length s.c1, .int .i64 s.a2, .int .i64 s.a3, .slice s.A4 s.l4.length s.c4]] X9 fun e w' => e = .returned (.tuple #[.agg #[.int .i64 9, .int .i64 10], .int .i64 0]) ∧ Below X9.heap.size X9 w') := Lib.hid (sumT_ok s X9 HV.out.v HV.out.rs HOK.out.1 (by rw [HSH.out.1]; exact sx3_off) 9 10 (by rw [HSH.out.1]; exact sx3_sum))
  go_upto_region 11 with (go_at_call 33; refine HC10.out.mono ?_; rintro e v10 ⟨rfl, h1⟩; have Hv10 := Lib.hid h1; clear h1)
  clear x0 x1 x2 x3 x4
  obtain ⟨X10, hX10⟩ : ∃ X, X = v10.alloc (.cells #[.int .i64 9, .int .i64 10] 24) := ⟨_, rfl⟩
  obtain ⟨r10, hr10⟩ : ∃ r, r = v10.heap.size := ⟨_, rfl⟩
  have hb : Below v10.heap.size v10 X10 := by rw [hX10]; exact (Below.refl _ _).alloc (Nat.le_refl _) _
  have hq : X10.heap[r10]? = some (.cells #[.int .i64 9, .int .i64 10] 24 (0, 0)) := by rw [hX10, hr10]; exact heap_alloc_last _ _
  have HR10 := Lib.hid hq
  have Hb10 : Hid (Below X9.heap.size X9 X10) := Lib.hid (Hv10.out.trans (hb.mono Hv10.out.size))
  replace HV := Lib.hid (HV.out.below Hb10.out)
  rw [← hX10, ← hr10]
  clear hX10 hr10 hb hq
  have x0 := HV.out.x.c0
  have x1 := HV.out.x.c1
  have x2 := HV.out.x.c2
  have x3 := HV.out.x.c3
  have x4 := HV.out.x.c4
  have HC11 : Hid (Calls Tryd.prog 31 #[.agg #[.slice s.A0 s.l0.length s.c0, .slice s.A1 s.l1.length s.c1, .int .i64 s.a2, .int .i64 s.a3, .slice s.A4 s.l4.length s.c4]] X10 fun e w' => ∃ A c, e = .returned (.tuple #[.slice A 0 c, .int .i64 0]) ∧ Below X10.heap.size X10 w') := Lib.hid (by
    have h := sureT_ok s X10 HV.out.v HV.out.rs HOK.out.1 (by rw [HSH.out.1]; exact sx3_off) (endE s.sh) (fun i hi => endE_is HOK.out.1 (by rw [HSH.out.1]; exact sx3_off) (by rw [ShM.len4]; exact hi))
    have hk : sureK (endE s.sh) s.l4.length = [] := by rw [HOK.out.2.2.2.2.1, HSH.out.1, sx3_sure]
    rw [hk] at h
    refine h.mono ?_
    rintro e w' ⟨A, c, rfl, -, hb⟩
    exact ⟨A, c, rfl, hb⟩)
  go_upto_region 12 with (go_at_call 31; refine HC11.out.mono ?_; rintro e v11 ⟨A11, c11, rfl, h1⟩; have Hv11 := Lib.hid h1; clear h1)
  clear x0 x1 x2 x3 x4
  -- CUT12
  go_upto_region 14 with fail
  -- CUT13
  replace HV := Lib.hid (HV.out.below Hv11.out)
  have Hb711 : Hid (Below v7.heap.size v7 v11) := Lib.hid (by
    have h1 := Hb8.out.size
    have h2 := Hb9.out.size
    have h3 := Hb10.out.size
    exact Hb8.out.trans ((Hb9.out.trans ((Hb10.out.trans (Hv11.out.mono h3)).mono h2)).mono h1))
  have HX6b := Lib.hid (Kd.C_below HX6.out (Hv7.out.trans (Hb711.out.mono Hv7.out.size)))
  have x0 := HV.out.x.c0
  have x1 := HV.out.x.c1
  have x2 := HV.out.x.c2
  have x3 := HV.out.x.c3
  have x4 := HV.out.x.c4
  have HC14 := Lib.hid (refWrong_ok s (some ⟨T6, 0, none⟩) (bestT s.sh).length (bestT s.sh) v11 HV.out.rs HX6b.out (Nat.le_refl _) HOK.out.1 (best_in HOK.out.1) 0 (by show (0 : Int) = offS s.sh; rw [HSH.out.1, sx3_off]))
  go_upto_region 15 with (go_at_call 19; refine HC14.out.mono ?_; rintro e v14 ⟨rfl, h1⟩; have Hv14 := Lib.hid h1; clear h1)
  clear x0 x1 x2 x3 x4
  replace HV := Lib.hid (HV.out.below Hv14.out)
  have x0 := HV.out.y.c0
  have x1 := HV.out.y.c1
  have x2 := HV.out.y.c2
  have x3 := HV.out.y.c3
  have x4 := HV.out.y.c4
  obtain ⟨A7', c7', e7, hc7, -, hr7⟩ := HX7.out
  have HC15 : Hid (Calls Tryd.prog 23 #[.agg #[.slice t.A0 t.l0.length t.c0, .slice t.A1 t.l1.length t.c1, .int .i64 t.a2, .int .i64 t.a3, .slice t.A4 t.l4.length t.c4], .slice A7 (t.l0.length + t.l1.length + 1) c7] v14 fun e w' => e = .returned (.tuple #[.int .i64 1, .int .i64 0]) ∧ Below v14.heap.size v14 w') := Lib.hid (by
    have hbl := bestL_length t
    have hrt := HV.out.rt
    have hb7 : Below v7.heap.size v7 v14 := Hb711.out.trans (Hv14.out.mono Hb711.out.size)
    have hrd : Kd.C (Kd.int .i64) v14 A7' (bestL t).length (bestL t) := Kd.C_below (Kd.C_of_reads (d := (0 : Int)) (h1 := fun _ => rfl) hr7) hb7
    have h := peaveyref11_CheckWeights.calls 400 t.A0 t.c0 t.l0 t.A1 t.c1 t.l1 t.a2 t.a3 t.A4 t.c4 t.l4 A7' c7' (bestL t) 1 0 v14 hrt.r0 hrt.h0 hrt.r1 hrt.h1 hrt.r4 hrt.h4 hrd hc7 (refWeights_any t HOK.out.2.1 (bestL t) hbl (by omega) 1 0 (.inl ⟨bestL_in HOK.out.2.1, by rw [bestL_bound HOK.out.2.1, HSH.out.2, sx1_off], rfl⟩))
    rw [← show Value.slice A7 (t.l0.length + t.l1.length + 1) c7 = Value.slice A7' (bestL t).length c7' from e7] at h
    exact h)
  clear e7 hc7 hr7
  go_upto_region 16 with (go_at_call 23; refine HC15.out.mono ?_; rintro e v15 ⟨rfl, h1⟩; have Hv15 := Lib.hid h1; clear h1)
  clear x0 x1 x2 x3 x4
  have HQ : Hid (v15.heap[r8]? = some (.cells #[.int .i64 4, .int .i64 6] 24 (0, 0)) ∧ v15.heap[r10]? = some (.cells #[.int .i64 9, .int .i64 10] 24 (0, 0)) ∧ Below w.heap.size w v15) := Lib.hid (by
    have h3 := Hb10.out.size
    have h2 := Hb9.out.size
    have hz : Below X10.heap.size X10 v15 := Hv11.out.trans ((Hv14.out.trans (Hv15.out.mono Hv14.out.size)).mono Hv11.out.size)
    have hy : Below X8.heap.size X8 v15 := Hb9.out.trans ((Hb10.out.trans (hz.mono h3)).mono h2)
    exact ⟨(hy.block _ (heap_lt HR8.out)).trans HR8.out, (hz.block _ (heap_lt HR10.out)).trans HR10.out, HV.out.b.trans (Hv15.out.mono HV.out.b.size)⟩)
  have p0 : v15.cell? ⟨r8, 0, none⟩ = some (.int .i64 4) := by rw [cell_of_row _ _ _ _ _ _ HQ.out.1]; rfl
  have p1 : v15.cell? ⟨r8, 1, none⟩ = some (.int .i64 6) := by rw [cell_of_row _ _ _ _ _ _ HQ.out.1]; rfl
  have q0 : v15.cell? ⟨r10, 0, none⟩ = some (.int .i64 9) := by rw [cell_of_row _ _ _ _ _ _ HQ.out.2.1]; rfl
  have q1 : v15.cell? ⟨r10, 1, none⟩ = some (.int .i64 10) := by rw [cell_of_row _ _ _ _ _ _ HQ.out.2.1]; rfl
  have hS : Below v15.heap.size v15 v15.drew := (Below.refl _ _).drew
  refine wp_region_held_list (k := 46) rfl (fun w' => Below v15.heap.size v15 w') (by kernel_rfl) ?_
  generalize v15.drew = W0 at hS ⊢
  refine take_list (i := 0) (v := .int .i64 0) rfl (by kernel_rfl) (by kernel_rfl) (by kernel_rfl) (fun _ _ _ h => h) (by rfl) (by intro w' hw'; go_simp) hS ?_
  (try simp only [Act.put, List.setIfInBounds_toArray, List.set_cons_zero, List.set_cons_succ])
  refine take_list (i := 1) (v := .bool true) rfl (by kernel_rfl) (by kernel_rfl) (by kernel_rfl) (fun _ _ _ h => h) (by rfl) (by intro w' hw'; go_simp) hS ?_
  (try simp only [Act.put, List.setIfInBounds_toArray, List.set_cons_zero, List.set_cons_succ])
  refine take_list (i := 2) (v := .bool true) rfl (by kernel_rfl) (by kernel_rfl) (by kernel_rfl) (fun _ _ _ h => h) (by rfl) (by intro w' hw'; go_simp) hS ?_
  (try simp only [Act.put, List.setIfInBounds_toArray, List.set_cons_zero, List.set_cons_succ])
  refine take_list (i := 3) (v := .int .i64 14) rfl (by kernel_rfl) (by kernel_rfl) (by kernel_rfl) (fun _ _ _ h => h) (by rfl) (by intro w' hw'; go_simp) hS ?_
  (try simp only [Act.put, List.setIfInBounds_toArray, List.set_cons_zero, List.set_cons_succ])
  refine take_list (i := 4) (v := .bool true) rfl (by kernel_rfl) (by kernel_rfl) (by kernel_rfl) (fun _ _ _ h => h) (by rfl) (by intro w' hw'; go_simp) hS ?_
  (try simp only [Act.put, List.setIfInBounds_toArray, List.set_cons_zero, List.set_cons_succ])
  refine take_list (i := 5) (v := .bool true) rfl (by kernel_rfl) (by kernel_rfl) (by kernel_rfl) (fun _ _ _ h => h) (by rfl) (by intro w' hw'; go_simp) hS ?_
  (try simp only [Act.put, List.setIfInBounds_toArray, List.set_cons_zero, List.set_cons_succ])
  refine take_list (i := 6) (v := .bool true) rfl (by kernel_rfl) (by kernel_rfl) (by kernel_rfl) (fun _ _ _ h => h) (by rfl) (by intro w' hw'; go_simp) hS ?_
  (try simp only [Act.put, List.setIfInBounds_toArray, List.set_cons_zero, List.set_cons_succ])
  refine take_list (i := 7) (v := .int .i64 1) rfl (by kernel_rfl) (by kernel_rfl) (by kernel_rfl) (fun _ _ _ h => h) (by rfl) (by intro w' hw'; go_simp) hS ?_
  (try simp only [Act.put, List.setIfInBounds_toArray, List.set_cons_zero, List.set_cons_succ])
  refine take_list (i := 8) (v := .bool true) rfl (by kernel_rfl) (by kernel_rfl) (by kernel_rfl) (fun _ _ _ h => h) (by rfl) (by intro w' hw'; go_simp) hS ?_
  (try simp only [Act.put, List.setIfInBounds_toArray, List.set_cons_zero, List.set_cons_succ])
  refine take_list (i := 9) (v := .bool true) rfl (by kernel_rfl) (by kernel_rfl) (by kernel_rfl) (fun _ _ _ h => h) (by rfl) (by intro w' hw'; go_simp) hS ?_
  (try simp only [Act.put, List.setIfInBounds_toArray, List.set_cons_zero, List.set_cons_succ])
  refine take_list (i := 10) (v := .bool true) rfl (by kernel_rfl) (by kernel_rfl) (by kernel_rfl) (fun _ _ _ h => h) (by rfl) (by intro w' hw'; go_simp) hS ?_
  (try simp only [Act.put, List.setIfInBounds_toArray, List.set_cons_zero, List.set_cons_succ])
  refine take_list (i := 11) (v := .int .i64 1) rfl (by kernel_rfl) (by kernel_rfl) (by kernel_rfl) (fun _ _ _ h => h) (by rfl) (by intro w' hw'; go_simp) hS ?_
  (try simp only [Act.put, List.setIfInBounds_toArray, List.set_cons_zero, List.set_cons_succ])
  refine take_list (i := 12) (v := .bool true) rfl (by kernel_rfl) (by kernel_rfl) (by kernel_rfl) (fun _ _ _ h => h) (by rfl) (by intro w' hw'; go_simp) hS ?_
  (try simp only [Act.put, List.setIfInBounds_toArray, List.set_cons_zero, List.set_cons_succ])
  refine take_list (i := 13) (v := .bool true) rfl (by kernel_rfl) (by kernel_rfl) (by kernel_rfl) (fun _ _ _ h => h) (by rfl) (by intro w' hw'; go_simp) hS ?_
  (try simp only [Act.put, List.setIfInBounds_toArray, List.set_cons_zero, List.set_cons_succ])
  refine take_list (i := 14) (v := .bool true) rfl (by kernel_rfl) (by kernel_rfl) (by kernel_rfl) (fun _ _ _ h => h) (by rfl) (by intro w' hw'; go_simp) hS ?_
  (try simp only [Act.put, List.setIfInBounds_toArray, List.set_cons_zero, List.set_cons_succ])
  refine take_list (i := 15) (v := .int .i64 0) rfl (by kernel_rfl) (by kernel_rfl) (by kernel_rfl) (fun _ _ _ h => h) (by rfl) (by intro w' hw'; go_simp) hS ?_
  (try simp only [Act.put, List.setIfInBounds_toArray, List.set_cons_zero, List.set_cons_succ])
  refine take_list (i := 16) (v := .bool true) rfl (by kernel_rfl) (by kernel_rfl) (by kernel_rfl) (fun _ _ _ h => h) (by rfl) (by intro w' hw'; go_simp) hS ?_
  (try simp only [Act.put, List.setIfInBounds_toArray, List.set_cons_zero, List.set_cons_succ])
  refine take_list (i := 17) (v := .bool true) rfl (by kernel_rfl) (by kernel_rfl) (by kernel_rfl) (fun _ _ _ h => h) (by rfl) (by intro w' hw'; go_simp) hS ?_
  (try simp only [Act.put, List.setIfInBounds_toArray, List.set_cons_zero, List.set_cons_succ])
  refine take_list (i := 18) (v := .bool true) rfl (by kernel_rfl) (by kernel_rfl) (by kernel_rfl) (fun _ _ _ h => h) (by rfl) (by intro w' hw'; go_simp) hS ?_
  (try simp only [Act.put, List.setIfInBounds_toArray, List.set_cons_zero, List.set_cons_succ])
  refine take_list (i := 19) (v := .int .i64 0) rfl (by kernel_rfl) (by kernel_rfl) (by kernel_rfl) (fun _ _ _ h => h) (by rfl) (by intro w' hw'; go_simp) hS ?_
  (try simp only [Act.put, List.setIfInBounds_toArray, List.set_cons_zero, List.set_cons_succ])
  refine take_list (i := 20) (v := .bool true) rfl (by kernel_rfl) (by kernel_rfl) (by kernel_rfl) (fun _ _ _ h => h) (by rfl) (by intro w' hw'; go_simp) hS ?_
  (try simp only [Act.put, List.setIfInBounds_toArray, List.set_cons_zero, List.set_cons_succ])
  refine take_list (i := 21) (v := .bool true) rfl (by kernel_rfl) (by kernel_rfl) (by kernel_rfl) (fun _ _ _ h => h) (by rfl) (by intro w' hw'; go_simp) hS ?_
  (try simp only [Act.put, List.setIfInBounds_toArray, List.set_cons_zero, List.set_cons_succ])
  refine take_list (i := 22) (v := .bool true) rfl (by kernel_rfl) (by kernel_rfl) (by kernel_rfl) (fun _ _ _ h => h) (by rfl) (by intro w' hw'; go_simp) hS ?_
  (try simp only [Act.put, List.setIfInBounds_toArray, List.set_cons_zero, List.set_cons_succ])
  refine take_list (i := 23) (v := .int .i64 0) rfl (by kernel_rfl) (by kernel_rfl) (by kernel_rfl) (fun _ _ _ h => h) (by rfl) (by intro w' hw'; go_simp) hS ?_
  (try simp only [Act.put, List.setIfInBounds_toArray, List.set_cons_zero, List.set_cons_succ])
  refine take_list (i := 24) (v := .bool true) rfl (by kernel_rfl) (by kernel_rfl) (by kernel_rfl) (fun _ _ _ h => h) (by rfl) (by intro w' hw'; go_simp) hS ?_
  (try simp only [Act.put, List.setIfInBounds_toArray, List.set_cons_zero, List.set_cons_succ])
  refine take_list (i := 25) (v := .bool true) rfl (by kernel_rfl) (by kernel_rfl) (by kernel_rfl) (fun _ _ _ h => h) (by rfl) (by intro w' hw'; go_simp) hS ?_
  (try simp only [Act.put, List.setIfInBounds_toArray, List.set_cons_zero, List.set_cons_succ])
  refine take_list (i := 26) (v := .bool true) rfl (by kernel_rfl) (by kernel_rfl) (by kernel_rfl) (fun _ _ _ h => h) (by rfl) (by intro w' hw'; go_simp) hS ?_
  (try simp only [Act.put, List.setIfInBounds_toArray, List.set_cons_zero, List.set_cons_succ])
  refine take_list (i := 27) (v := .int .i64 1) rfl (by kernel_rfl) (by kernel_rfl) (by kernel_rfl) (fun _ _ _ h => h) (by rfl) (by intro w' hw'; go_simp) hS ?_
  (try simp only [Act.put, List.setIfInBounds_toArray, List.set_cons_zero, List.set_cons_succ])
  refine take_list (i := 28) (v := .bool true) rfl (by kernel_rfl) (by kernel_rfl) (by kernel_rfl) (fun _ _ _ h => h) (by rfl) (by intro w' hw'; go_simp) hS ?_
  (try simp only [Act.put, List.setIfInBounds_toArray, List.set_cons_zero, List.set_cons_succ])
  refine take_list (i := 29) (v := .bool true) rfl (by kernel_rfl) (by kernel_rfl) (by kernel_rfl) (fun _ _ _ h => h) (by rfl) (by intro w' hw'; go_simp) hS ?_
  (try simp only [Act.put, List.setIfInBounds_toArray, List.set_cons_zero, List.set_cons_succ])
  refine take_list (i := 30) (v := .bool true) rfl (by kernel_rfl) (by kernel_rfl) (by kernel_rfl) (fun _ _ _ h => h) (by rfl) (by intro w' hw'; go_simp) hS ?_
  (try simp only [Act.put, List.setIfInBounds_toArray, List.set_cons_zero, List.set_cons_succ])
  refine take_list (i := 31) (v := .agg #[.int .i64 4, .int .i64 6]) rfl (by kernel_rfl) (by kernel_rfl) (by kernel_rfl) (fun _ _ _ h => h) (by rfl) (by intro w' hw'; have z0 := held_now hw' p0; have z1 := held_now hw' p1; go_simp) hS ?_
  (try simp only [Act.put, List.setIfInBounds_toArray, List.set_cons_zero, List.set_cons_succ])
  refine step_list (i := 32) (by kernel_rfl) rfl (by rfl) (fun K hK => ?_)
  go_simp
  refine (rg_any 4 6 _).mono ?_
  rintro e U8 ⟨rfl, hbu⟩
  have hS8 := hS.trans (hbu.mono hS.size)
  refine hK _ _ hS8 ?_
  clear hK K hS hbu
  have hS := hS8
  clear hS8
  (try simp only [Act.put, List.setIfInBounds_toArray, List.set_cons_zero, List.set_cons_succ])
  refine take_list (i := 33) (v := .bool true) rfl (by kernel_rfl) (by kernel_rfl) (by kernel_rfl) (fun _ _ _ h => h) (by rfl) (by intro w' hw'; go_simp) hS ?_
  (try simp only [Act.put, List.setIfInBounds_toArray, List.set_cons_zero, List.set_cons_succ])
  refine take_list (i := 34) (v := .bool true) rfl (by kernel_rfl) (by kernel_rfl) (by kernel_rfl) (fun _ _ _ h => h) (by rfl) (by intro w' hw'; go_simp) hS ?_
  (try simp only [Act.put, List.setIfInBounds_toArray, List.set_cons_zero, List.set_cons_succ])
  refine take_list (i := 35) (v := .bool true) rfl (by kernel_rfl) (by kernel_rfl) (by kernel_rfl) (fun _ _ _ h => h) (by rfl) (by intro w' hw'; go_simp) hS ?_
  (try simp only [Act.put, List.setIfInBounds_toArray, List.set_cons_zero, List.set_cons_succ])
  refine take_list (i := 36) (v := .agg #[.int .i64 9, .int .i64 10]) rfl (by kernel_rfl) (by kernel_rfl) (by kernel_rfl) (fun _ _ _ h => h) (by rfl) (by intro w' hw'; have z0 := held_now hw' q0; have z1 := held_now hw' q1; go_simp) hS ?_
  (try simp only [Act.put, List.setIfInBounds_toArray, List.set_cons_zero, List.set_cons_succ])
  refine step_list (i := 37) (by kernel_rfl) rfl (by rfl) (fun K hK => ?_)
  go_simp
  refine (rg_any 9 10 _).mono ?_
  rintro e U10 ⟨rfl, hbu⟩
  have hS10 := hS.trans (hbu.mono hS.size)
  refine hK _ _ hS10 ?_
  clear hK K hS hbu
  have hS := hS10
  clear hS10
  (try simp only [Act.put, List.setIfInBounds_toArray, List.set_cons_zero, List.set_cons_succ])
  refine take_list (i := 38) (v := .bool true) rfl (by kernel_rfl) (by kernel_rfl) (by kernel_rfl) (fun _ _ _ h => h) (by rfl) (by intro w' hw'; go_simp) hS ?_
  (try simp only [Act.put, List.setIfInBounds_toArray, List.set_cons_zero, List.set_cons_succ])
  refine take_list (i := 39) (v := .bool true) rfl (by kernel_rfl) (by kernel_rfl) (by kernel_rfl) (fun _ _ _ h => h) (by rfl) (by intro w' hw'; go_simp) hS ?_
  (try simp only [Act.put, List.setIfInBounds_toArray, List.set_cons_zero, List.set_cons_succ])
  refine take_list (i := 40) (v := .bool true) rfl (by kernel_rfl) (by kernel_rfl) (by kernel_rfl) (fun _ _ _ h => h) (by rfl) (by intro w' hw'; go_simp) hS ?_
  (try simp only [Act.put, List.setIfInBounds_toArray, List.set_cons_zero, List.set_cons_succ])
  refine take_list (i := 41) (v := .slice A11 0 c11) rfl (by kernel_rfl) (by kernel_rfl) (by kernel_rfl) (fun _ _ _ h => h) (by rfl) (by intro w' hw'; go_simp) hS ?_
  (try simp only [Act.put, List.setIfInBounds_toArray, List.set_cons_zero, List.set_cons_succ])
  refine take_list (i := 42) (v := .int .i64 0) rfl (by kernel_rfl) (by kernel_rfl) (by kernel_rfl) (fun _ _ _ h => h) (by rfl) (by intro w' hw'; go_simp) hS ?_
  (try simp only [Act.put, List.setIfInBounds_toArray, List.set_cons_zero, List.set_cons_succ])
  refine take_list (i := 43) (v := .bool true) rfl (by kernel_rfl) (by kernel_rfl) (by kernel_rfl) (fun _ _ _ h => h) (by rfl) (by intro w' hw'; go_simp) hS ?_
  (try simp only [Act.put, List.setIfInBounds_toArray, List.set_cons_zero, List.set_cons_succ])
  refine take_list (i := 44) (v := .bool true) rfl (by kernel_rfl) (by kernel_rfl) (by kernel_rfl) (fun _ _ _ h => h) (by rfl) (by intro w' hw'; go_simp) hS ?_
  (try simp only [Act.put, List.setIfInBounds_toArray, List.set_cons_zero, List.set_cons_succ])
  refine take_list (i := 45) (v := .bool true) rfl (by kernel_rfl) (by kernel_rfl) (by kernel_rfl) (fun _ _ _ h => h) (by rfl) (by intro w' hw'; go_simp) hS ?_
  (try simp only [Act.put, List.setIfInBounds_toArray, List.set_cons_zero, List.set_cons_succ])
  refine wpAnyH_done (by kernel_rfl) ?_ _
  have HE := Lib.hid (HQ.out.2.2.trans (hS.mono HQ.out.2.2.size))
  clear hS p0 p1 q0 q1
  go_wp2_with fail
  refine bodyPost_ret (results_tmp (t := 0) rfl _ _ _) rfl ?_
  exact ⟨rfl, HE.out⟩
end Go.Proofs.YtcbhnhoicecnnaaDoor.Hand
