/- The laws' examples of the gap hold: Works returns true. (Printed by tools/works03.py.) -/
import Derived.Test.YtmfonbonfhngnaaHWorksV
import Derived.Test.YtmfonbonfhngnaaPrL1
namespace Go.Proofs.Ytmfonbonfhngnaa.Hand
set_option linter.unusedVariables false
set_option linter.unusedSimpArgs false
open Go.RowKit Go.Maps Go.Proofs.YtmfonbonfhngnaaW.PrintWords Go.Proofs.YtmfonbonfhngnaaW.PrintLast Go.Proofs.YtmfonbonfhngnaaW.PrintMore Go.Proofs.Ytmfonbonfhngnaa.PrA Go.Proofs.Ytmfonbonfhngnaa.PrR Go.Proofs.Ytmfonbonfhngnaa.PrL

theorem reads_lit (w : World) (l : List Int) (hl : l.length ≤ 100) : Kd.C (Kd.int .i64) (w.alloc (.cells (l.map fun x => Value.int .i64 x).toArray 3)) (some ⟨w.heap.size, 0, none⟩) l.length l :=
  Kd.C_of_reads (d := (0 : Int)) (h1 := fun _ => rfl) ⟨rfl, by omega, fun _ => ⟨_, rfl, fun j hj => by
    rw [show (Addr.add ⟨w.heap.size, 0, none⟩ j) = ⟨w.heap.size, j, none⟩ by by_cases h0 : j = 0 <;> simp [Addr.add, h0]]
    rw [cell_of_row _ _ j _ _ _ (heap_alloc_last w _)]
    simp [hj, List.getD_eq_getElem?_getD]⟩⟩
theorem size_alloc1 (w : World) (o : Obj) : (w.alloc o).heap.size = w.heap.size + 1 := by simp
/-- a literal row of rows -/
theorem rows_lit (w : World) (qs : List (Addr × List Int)) (hl : qs.length ≤ 100) (h : ∀ q ∈ qs, Kd.C (Kd.int .i64) w (some q.1) q.2.length q.2) :
    Kd.C (Kd.slice 3 (Kd.int .i64)) (w.alloc (.cells (qs.map fun q => Value.slice (some q.1) q.2.length q.2.length).toArray 23)) (some ⟨w.heap.size, 0, none⟩) (qs.map Prod.snd).length (qs.map Prod.snd) := by
  refine ⟨rfl, by simp; omega, fun _ => ⟨_, rfl, fun j p hj => ?_⟩⟩
  rw [List.getElem?_map] at hj
  obtain ⟨q, hq, rfl⟩ := Option.map_eq_some_iff.1 hj
  refine ⟨[.slice (some q.1) q.2.length q.2.length], rfl, ⟨some q.1, q.2.length, rfl, Nat.le_refl _, Kd.C_alloc (h q (List.mem_of_getElem? hq)) _⟩, fun i u hu => ?_⟩
  have hi : i = 0 := by
    have := (List.getElem?_eq_some_iff.1 hu).1
    simpa using this
  subst hi
  have hu' : u = .slice (some q.1) q.2.length q.2.length := by simpa using hu.symm
  subst hu'
  rw [show (Addr.add ⟨w.heap.size, 0, none⟩ (j * (Kd.slice 3 (Kd.int .i64)).sz + 0)) = ⟨w.heap.size, j, none⟩ by show Addr.add _ (j * 1 + 0) = _; by_cases h0 : j = 0 <;> simp [Addr.add, h0]]
  rw [cell_of_row _ _ j _ _ _ (heap_alloc_last w _)]
  simp [hq]

theorem is0 : peaveylaw03_Ints.f 100 [0, 1, 0, 2, 0, 1, 1, 2, 2] [0, 1, 0, 2, 0, 1, 1, 2, 2] = some true := by decide +kernel
theorem is1 : peaveylaw03_Ints.f 100 [0, 1, 3] [0, 1, 3] = some true := by decide +kernel
theorem is2 : peaveylaw03_Ints.f 100 [4, 3, 2] [4, 3, 2] = some true := by decide +kernel
theorem is3 : peaveylaw03_Ints.f 100 [3, 1] [3, 1] = some true := by decide +kernel

set_option maxHeartbeats 16000000 in
set_option maxRecDepth 100000 in
theorem works_true (w : World) : Calls Try.prog 18 #[] w fun e w' => e = .returned (.bool true) ∧ Below w.heap.size w w' := by
  go_enter Try.func18, Try.ntmps18
  go_wp2_with fail
  refine (peaveylaw03_Rows.calls [5, 2, 8, 1, 9, 3, 7, 4, 6] [2, 2, 1, 2] w rfl).mono ?_
  rintro e w0 ⟨v1, v2, rfl, hh, he, hb⟩
  obtain ⟨Ah, ch, rfl, hl, hC⟩ := Kd.R_reads hh
  have HSh := Lib.hid (And.intro hC hl)
  clear hh hl hC
  obtain ⟨Ae, ce, rfl, hl, hC⟩ := Kd.R_reads he
  have HSe := Lib.hid (And.intro hC hl)
  have hB := Lib.hid hb
  clear he hl hC hb
  go_wp2_with fail
  obtain ⟨x1, hx1⟩ : ∃ x, x = w0.alloc (.cells #[.int .i64 (-1), .int .i64 0, .int .i64 0, .int .i64 1, .int .i64 0, .int .i64 1, .int .i64 (-1), .int .i64 1, .int .i64 1] 3) := ⟨_, rfl⟩
  have hb : Below w0.heap.size w0 x1 := by rw [hx1]; exact (Below.refl _ _).alloc (Nat.le_refl _) _
  have HL := Lib.hid (reads_lit w0 [-1, 0, 0, 1, 0, 1, -1, 1, 1] (by decide))
  obtain ⟨ax1, hax1⟩ : ∃ a, a = w0.heap.size := ⟨_, rfl⟩
  have HSq : Hid (Kd.C (Kd.int .i64) x1 (some ⟨ax1, 0, none⟩) ([-1, 0, 0, 1, 0, 1, -1, 1, 1] : List Int).length [-1, 0, 0, 1, 0, 1, -1, 1, 1] ∧ ([-1, 0, 0, 1, 0, 1, -1, 1, 1] : List Int).length ≤ 9) := Lib.hid ⟨by rw [hx1, hax1]; exact HL.out, by decide⟩
  have hsx1 : x1.heap.size = ax1 + 1 := by rw [hx1, size_alloc1, hax1]
  rw [← hx1]
  (try rw [← hax1])
  have hB' := Lib.hid (hB.out.trans (hb.mono hB.out.size))
  clear hB
  have hB := hB'
  clear hB'
  have HSh := Lib.hid (And.intro (Kd.C_below HSh.out.1 hb) HSh.out.2)
  have HSe := Lib.hid (And.intro (Kd.C_below HSe.out.1 hb) HSe.out.2)
  clear hb HL hx1
  refine (gap_CheckTurning.calls Ah ch [5, 2, 8, 1, 9, 3, 7, 4, 6] 2 (some ⟨ax1, 0, none⟩) 9 [-1, 0, 0, 1, 0, 1, -1, 1, 1] 7 0 x1 HSh.out.1 HSh.out.2 HSq.out.1 HSq.out.2 v1).mono ?_
  rintro e w1 ⟨rfl, hb⟩
  have HSh := Lib.hid (And.intro (Kd.C_below HSh.out.1 hb) HSh.out.2)
  have HSe := Lib.hid (And.intro (Kd.C_below HSe.out.1 hb) HSe.out.2)
  have hB' := Lib.hid (hB.out.trans (hb.mono hB.out.size))
  clear hB
  have hB := hB'
  clear hB' hb
  go_wp2_with fail
  obtain ⟨x2, hx2⟩ : ∃ x, x = w1.alloc (.cells #[.int .i64 0, .int .i64 0, .int .i64 0, .int .i64 1, .int .i64 0, .int .i64 1, .int .i64 (-1), .int .i64 1, .int .i64 1] 3) := ⟨_, rfl⟩
  have hb : Below w1.heap.size w1 x2 := by rw [hx2]; exact (Below.refl _ _).alloc (Nat.le_refl _) _
  have HL := Lib.hid (reads_lit w1 [0, 0, 0, 1, 0, 1, -1, 1, 1] (by decide))
  obtain ⟨ax2, hax2⟩ : ∃ a, a = w1.heap.size := ⟨_, rfl⟩
  have HSq : Hid (Kd.C (Kd.int .i64) x2 (some ⟨ax2, 0, none⟩) ([0, 0, 0, 1, 0, 1, -1, 1, 1] : List Int).length [0, 0, 0, 1, 0, 1, -1, 1, 1] ∧ ([0, 0, 0, 1, 0, 1, -1, 1, 1] : List Int).length ≤ 9) := Lib.hid ⟨by rw [hx2, hax2]; exact HL.out, by decide⟩
  have hsx2 : x2.heap.size = ax2 + 1 := by rw [hx2, size_alloc1, hax2]
  rw [← hx2]
  (try rw [← hax2])
  have hB' := Lib.hid (hB.out.trans (hb.mono hB.out.size))
  clear hB
  have hB := hB'
  clear hB'
  have HSh := Lib.hid (And.intro (Kd.C_below HSh.out.1 hb) HSh.out.2)
  have HSe := Lib.hid (And.intro (Kd.C_below HSe.out.1 hb) HSe.out.2)
  clear hb HL hx2
  refine (gap_CheckTurning.calls Ah ch [5, 2, 8, 1, 9, 3, 7, 4, 6] 2 (some ⟨ax2, 0, none⟩) 9 [0, 0, 0, 1, 0, 1, -1, 1, 1] 0 16 x2 HSh.out.1 HSh.out.2 HSq.out.1 HSq.out.2 v2).mono ?_
  rintro e w2 ⟨rfl, hb⟩
  have HSh := Lib.hid (And.intro (Kd.C_below HSh.out.1 hb) HSh.out.2)
  have HSe := Lib.hid (And.intro (Kd.C_below HSe.out.1 hb) HSe.out.2)
  have hB' := Lib.hid (hB.out.trans (hb.mono hB.out.size))
  clear hB
  have hB := hB'
  clear hB' hb
  go_wp2_with fail
  refine (gap_Most.calls 100 Ah ch [5, 2, 8, 1, 9, 3, 7, 4, 6] 2 7 0 w2 HSh.out.1 HSh.out.2 v3).mono ?_
  rintro e w3 ⟨rfl, hb⟩
  have HSh := Lib.hid (And.intro (Kd.C_below HSh.out.1 hb) HSh.out.2)
  have HSe := Lib.hid (And.intro (Kd.C_below HSe.out.1 hb) HSe.out.2)
  have hB' := Lib.hid (hB.out.trans (hb.mono hB.out.size))
  clear hB
  have hB := hB'
  clear hB' hb
  go_wp2_with fail
  refine (gap_Fewest.calls Ah ch [5, 2, 8, 1, 9, 3, 7, 4, 6] 3 0 w3 HSh.out.1 HSh.out.2 v4).mono ?_
  rintro e w4 ⟨rfl, hb⟩
  have HSh := Lib.hid (And.intro (Kd.C_below HSh.out.1 hb) HSh.out.2)
  have HSe := Lib.hid (And.intro (Kd.C_below HSe.out.1 hb) HSe.out.2)
  have hB' := Lib.hid (hB.out.trans (hb.mono hB.out.size))
  clear hB
  have hB := hB'
  clear hB' hb
  go_wp2_with fail
  refine (gap_Place.calls Ah ch [5, 2, 8, 1, 9, 3, 7, 4, 6] [0, 1, 0, 2, 0, 1, 1, 2, 2] 0 w4 HSh.out.1 HSh.out.2 v5).mono ?_
  rintro e w5 ⟨v, rfl, hrv, hb⟩
  obtain ⟨Ap, cp, rfl, hl, hC⟩ := Kd.R_reads hrv
  have HR := Lib.hid (And.intro hC hl)
  clear hrv hl hC
  have HSh := Lib.hid (And.intro (Kd.C_below HSh.out.1 hb) HSh.out.2)
  have HSe := Lib.hid (And.intro (Kd.C_below HSe.out.1 hb) HSe.out.2)
  have hB' := Lib.hid (hB.out.trans (hb.mono hB.out.size))
  clear hB
  have hB := hB'
  clear hB' hb
  have HSp := HR
  clear HR
  go_wp2_with fail
  refine (gap_Run.calls Ah ch [5, 2, 8, 1, 9, 3, 7, 4, 6] [0, 1, 3] 0 w5 HSh.out.1 HSh.out.2 v6).mono ?_
  rintro e w6 ⟨v, rfl, hrv, hb⟩
  obtain ⟨Ar, cr, rfl, hl, hC⟩ := Kd.R_reads hrv
  have HR := Lib.hid (And.intro hC hl)
  clear hrv hl hC
  have HSh := Lib.hid (And.intro (Kd.C_below HSh.out.1 hb) HSh.out.2)
  have HSe := Lib.hid (And.intro (Kd.C_below HSe.out.1 hb) HSe.out.2)
  have HSp := Lib.hid (And.intro (Kd.C_below HSp.out.1 hb) HSp.out.2)
  have hB' := Lib.hid (hB.out.trans (hb.mono hB.out.size))
  clear hB
  have hB := hB'
  clear hB' hb
  have HSr := HR
  clear HR
  go_wp2_with fail
  obtain ⟨x3, hx3⟩ : ∃ x, x = w6.alloc (.cells #[.int .i64 0, .int .i64 1, .int .i64 3] 3) := ⟨_, rfl⟩
  have hb : Below w6.heap.size w6 x3 := by rw [hx3]; exact (Below.refl _ _).alloc (Nat.le_refl _) _
  have HL := Lib.hid (reads_lit w6 [0, 1, 3] (by decide))
  obtain ⟨ax3, hax3⟩ : ∃ a, a = w6.heap.size := ⟨_, rfl⟩
  have HSq0 : Hid (Kd.C (Kd.int .i64) x3 (some ⟨ax3, 0, none⟩) ([0, 1, 3] : List Int).length [0, 1, 3] ∧ ([0, 1, 3] : List Int).length ≤ 3) := Lib.hid ⟨by rw [hx3, hax3]; exact HL.out, by decide⟩
  have hsx3 : x3.heap.size = ax3 + 1 := by rw [hx3, size_alloc1, hax3]
  rw [← hx3]
  (try rw [← hax3])
  have hB' := Lib.hid (hB.out.trans (hb.mono hB.out.size))
  clear hB
  have hB := hB'
  clear hB'
  have HSh := Lib.hid (And.intro (Kd.C_below HSh.out.1 hb) HSh.out.2)
  have HSe := Lib.hid (And.intro (Kd.C_below HSe.out.1 hb) HSe.out.2)
  have HSp := Lib.hid (And.intro (Kd.C_below HSp.out.1 hb) HSp.out.2)
  have HSr := Lib.hid (And.intro (Kd.C_below HSr.out.1 hb) HSr.out.2)
  clear hb HL hx3
  obtain ⟨x4, hx4⟩ : ∃ x, x = x3.alloc (.cells #[.int .i64 2, .int .i64 6, .int .i64 7] 3) := ⟨_, rfl⟩
  have hb : Below x3.heap.size x3 x4 := by rw [hx4]; exact (Below.refl _ _).alloc (Nat.le_refl _) _
  have HL := Lib.hid (reads_lit x3 [2, 6, 7] (by decide))
  have HSq1 : Hid (Kd.C (Kd.int .i64) x4 (some ⟨(ax3 + 1), 0, none⟩) ([2, 6, 7] : List Int).length [2, 6, 7] ∧ ([2, 6, 7] : List Int).length ≤ 3) := Lib.hid ⟨by rw [hx4, ← hsx3]; exact HL.out, by decide⟩
  have hsx4 : x4.heap.size = ax3 + 2 := by rw [hx4, size_alloc1, hsx3]
  rw [← hx4]
  have hB' := Lib.hid (hB.out.trans (hb.mono hB.out.size))
  clear hB
  have hB := hB'
  clear hB'
  have HSh := Lib.hid (And.intro (Kd.C_below HSh.out.1 hb) HSh.out.2)
  have HSe := Lib.hid (And.intro (Kd.C_below HSe.out.1 hb) HSe.out.2)
  have HSp := Lib.hid (And.intro (Kd.C_below HSp.out.1 hb) HSp.out.2)
  have HSr := Lib.hid (And.intro (Kd.C_below HSr.out.1 hb) HSr.out.2)
  have HSq0 := Lib.hid (And.intro (Kd.C_below HSq0.out.1 hb) HSq0.out.2)
  clear hb HL hx4
  obtain ⟨x5, hx5⟩ : ∃ x, x = x4.alloc (.cells #[.int .i64 4, .int .i64 5] 3) := ⟨_, rfl⟩
  have hb : Below x4.heap.size x4 x5 := by rw [hx5]; exact (Below.refl _ _).alloc (Nat.le_refl _) _
  have HL := Lib.hid (reads_lit x4 [4, 5] (by decide))
  have HSq2 : Hid (Kd.C (Kd.int .i64) x5 (some ⟨(ax3 + 2), 0, none⟩) ([4, 5] : List Int).length [4, 5] ∧ ([4, 5] : List Int).length ≤ 2) := Lib.hid ⟨by rw [hx5, ← hsx4]; exact HL.out, by decide⟩
  have hsx5 : x5.heap.size = ax3 + 3 := by rw [hx5, size_alloc1, hsx4]
  rw [← hx5]
  have hB' := Lib.hid (hB.out.trans (hb.mono hB.out.size))
  clear hB
  have hB := hB'
  clear hB'
  have HSh := Lib.hid (And.intro (Kd.C_below HSh.out.1 hb) HSh.out.2)
  have HSe := Lib.hid (And.intro (Kd.C_below HSe.out.1 hb) HSe.out.2)
  have HSp := Lib.hid (And.intro (Kd.C_below HSp.out.1 hb) HSp.out.2)
  have HSr := Lib.hid (And.intro (Kd.C_below HSr.out.1 hb) HSr.out.2)
  have HSq0 := Lib.hid (And.intro (Kd.C_below HSq0.out.1 hb) HSq0.out.2)
  have HSq1 := Lib.hid (And.intro (Kd.C_below HSq1.out.1 hb) HSq1.out.2)
  clear hb HL hx5
  obtain ⟨x6, hx6⟩ : ∃ x, x = x5.alloc (.cells #[.int .i64 8] 3) := ⟨_, rfl⟩
  have hb : Below x5.heap.size x5 x6 := by rw [hx6]; exact (Below.refl _ _).alloc (Nat.le_refl _) _
  have HL := Lib.hid (reads_lit x5 [8] (by decide))
  have HSq3 : Hid (Kd.C (Kd.int .i64) x6 (some ⟨(ax3 + 3), 0, none⟩) ([8] : List Int).length [8] ∧ ([8] : List Int).length ≤ 1) := Lib.hid ⟨by rw [hx6, ← hsx5]; exact HL.out, by decide⟩
  have hsx6 : x6.heap.size = ax3 + 4 := by rw [hx6, size_alloc1, hsx5]
  rw [← hx6]
  have hB' := Lib.hid (hB.out.trans (hb.mono hB.out.size))
  clear hB
  have hB := hB'
  clear hB'
  have HSh := Lib.hid (And.intro (Kd.C_below HSh.out.1 hb) HSh.out.2)
  have HSe := Lib.hid (And.intro (Kd.C_below HSe.out.1 hb) HSe.out.2)
  have HSp := Lib.hid (And.intro (Kd.C_below HSp.out.1 hb) HSp.out.2)
  have HSr := Lib.hid (And.intro (Kd.C_below HSr.out.1 hb) HSr.out.2)
  have HSq0 := Lib.hid (And.intro (Kd.C_below HSq0.out.1 hb) HSq0.out.2)
  have HSq1 := Lib.hid (And.intro (Kd.C_below HSq1.out.1 hb) HSq1.out.2)
  have HSq2 := Lib.hid (And.intro (Kd.C_below HSq2.out.1 hb) HSq2.out.2)
  clear hb HL hx6
  obtain ⟨x7, hx7⟩ : ∃ x, x = x6.alloc (.cells #[.slice (some ⟨ax3, 0, none⟩) 3 3, .slice (some ⟨(ax3 + 1), 0, none⟩) 3 3, .slice (some ⟨(ax3 + 2), 0, none⟩) 2 2, .slice (some ⟨(ax3 + 3), 0, none⟩) 1 1] 23) := ⟨_, rfl⟩
  have hb : Below x6.heap.size x6 x7 := by rw [hx7]; exact (Below.refl _ _).alloc (Nat.le_refl _) _
  have HL := Lib.hid (rows_lit x6 [(⟨ax3, 0, none⟩, [0, 1, 3]), (⟨(ax3 + 1), 0, none⟩, [2, 6, 7]), (⟨(ax3 + 2), 0, none⟩, [4, 5]), (⟨(ax3 + 3), 0, none⟩, [8])] (by simp) (by intro q hq; simp only [List.mem_cons, List.not_mem_nil, or_false] at hq; rcases hq with rfl | rfl | rfl | rfl; exact HSq0.out.1; exact HSq1.out.1; exact HSq2.out.1; exact HSq3.out.1))
  have HSq : Hid (Kd.C (Kd.slice 3 (Kd.int .i64)) x7 (some ⟨(ax3 + 4), 0, none⟩) ([[0, 1, 3], [2, 6, 7], [4, 5], [8]] : List (List Int)).length [[0, 1, 3], [2, 6, 7], [4, 5], [8]] ∧ ([[0, 1, 3], [2, 6, 7], [4, 5], [8]] : List (List Int)).length ≤ 4) := Lib.hid ⟨by rw [hx7, ← hsx6]; exact HL.out, by decide⟩
  have hsx7 : x7.heap.size = ax3 + 5 := by rw [hx7, size_alloc1, hsx6]
  rw [← hx7]
  have hB' := Lib.hid (hB.out.trans (hb.mono hB.out.size))
  clear hB
  have hB := hB'
  clear hB'
  have HSh := Lib.hid (And.intro (Kd.C_below HSh.out.1 hb) HSh.out.2)
  have HSe := Lib.hid (And.intro (Kd.C_below HSe.out.1 hb) HSe.out.2)
  have HSp := Lib.hid (And.intro (Kd.C_below HSp.out.1 hb) HSp.out.2)
  have HSr := Lib.hid (And.intro (Kd.C_below HSr.out.1 hb) HSr.out.2)
  have HSq0 := Lib.hid (And.intro (Kd.C_below HSq0.out.1 hb) HSq0.out.2)
  have HSq1 := Lib.hid (And.intro (Kd.C_below HSq1.out.1 hb) HSq1.out.2)
  have HSq2 := Lib.hid (And.intro (Kd.C_below HSq2.out.1 hb) HSq2.out.2)
  have HSq3 := Lib.hid (And.intro (Kd.C_below HSq3.out.1 hb) HSq3.out.2)
  clear hb HL hx7
  refine (gap_CheckRuns.calls 100 Ah ch [5, 2, 8, 1, 9, 3, 7, 4, 6] 2 (some ⟨(ax3 + 4), 0, none⟩) 4 [[0, 1, 3], [2, 6, 7], [4, 5], [8]] 7 0 x7 HSh.out.1 HSh.out.2 HSq.out.1 HSq.out.2 v7).mono ?_
  rintro e w7 ⟨rfl, hb⟩
  have HSh := Lib.hid (And.intro (Kd.C_below HSh.out.1 hb) HSh.out.2)
  have HSe := Lib.hid (And.intro (Kd.C_below HSe.out.1 hb) HSe.out.2)
  have HSp := Lib.hid (And.intro (Kd.C_below HSp.out.1 hb) HSp.out.2)
  have HSr := Lib.hid (And.intro (Kd.C_below HSr.out.1 hb) HSr.out.2)
  have hB' := Lib.hid (hB.out.trans (hb.mono hB.out.size))
  clear hB
  have hB := hB'
  clear hB' hb
  go_wp2_with fail
  obtain ⟨x8, hx8⟩ : ∃ x, x = w7.alloc (.cells #[.int .i64 0, .int .i64 1, .int .i64 3] 3) := ⟨_, rfl⟩
  have hb : Below w7.heap.size w7 x8 := by rw [hx8]; exact (Below.refl _ _).alloc (Nat.le_refl _) _
  have HL := Lib.hid (reads_lit w7 [0, 1, 3] (by decide))
  obtain ⟨ax8, hax8⟩ : ∃ a, a = w7.heap.size := ⟨_, rfl⟩
  have HSq0 : Hid (Kd.C (Kd.int .i64) x8 (some ⟨ax8, 0, none⟩) ([0, 1, 3] : List Int).length [0, 1, 3] ∧ ([0, 1, 3] : List Int).length ≤ 3) := Lib.hid ⟨by rw [hx8, hax8]; exact HL.out, by decide⟩
  have hsx8 : x8.heap.size = ax8 + 1 := by rw [hx8, size_alloc1, hax8]
  rw [← hx8]
  (try rw [← hax8])
  have hB' := Lib.hid (hB.out.trans (hb.mono hB.out.size))
  clear hB
  have hB := hB'
  clear hB'
  have HSh := Lib.hid (And.intro (Kd.C_below HSh.out.1 hb) HSh.out.2)
  have HSe := Lib.hid (And.intro (Kd.C_below HSe.out.1 hb) HSe.out.2)
  have HSp := Lib.hid (And.intro (Kd.C_below HSp.out.1 hb) HSp.out.2)
  have HSr := Lib.hid (And.intro (Kd.C_below HSr.out.1 hb) HSr.out.2)
  clear hb HL hx8
  obtain ⟨x9, hx9⟩ : ∃ x, x = x8.alloc (.cells #[.int .i64 2, .int .i64 6, .int .i64 7] 3) := ⟨_, rfl⟩
  have hb : Below x8.heap.size x8 x9 := by rw [hx9]; exact (Below.refl _ _).alloc (Nat.le_refl _) _
  have HL := Lib.hid (reads_lit x8 [2, 6, 7] (by decide))
  have HSq1 : Hid (Kd.C (Kd.int .i64) x9 (some ⟨(ax8 + 1), 0, none⟩) ([2, 6, 7] : List Int).length [2, 6, 7] ∧ ([2, 6, 7] : List Int).length ≤ 3) := Lib.hid ⟨by rw [hx9, ← hsx8]; exact HL.out, by decide⟩
  have hsx9 : x9.heap.size = ax8 + 2 := by rw [hx9, size_alloc1, hsx8]
  rw [← hx9]
  have hB' := Lib.hid (hB.out.trans (hb.mono hB.out.size))
  clear hB
  have hB := hB'
  clear hB'
  have HSh := Lib.hid (And.intro (Kd.C_below HSh.out.1 hb) HSh.out.2)
  have HSe := Lib.hid (And.intro (Kd.C_below HSe.out.1 hb) HSe.out.2)
  have HSp := Lib.hid (And.intro (Kd.C_below HSp.out.1 hb) HSp.out.2)
  have HSr := Lib.hid (And.intro (Kd.C_below HSr.out.1 hb) HSr.out.2)
  have HSq0 := Lib.hid (And.intro (Kd.C_below HSq0.out.1 hb) HSq0.out.2)
  clear hb HL hx9
  obtain ⟨x10, hx10⟩ : ∃ x, x = x9.alloc (.cells #[.int .i64 4, .int .i64 5] 3) := ⟨_, rfl⟩
  have hb : Below x9.heap.size x9 x10 := by rw [hx10]; exact (Below.refl _ _).alloc (Nat.le_refl _) _
  have HL := Lib.hid (reads_lit x9 [4, 5] (by decide))
  have HSq2 : Hid (Kd.C (Kd.int .i64) x10 (some ⟨(ax8 + 2), 0, none⟩) ([4, 5] : List Int).length [4, 5] ∧ ([4, 5] : List Int).length ≤ 2) := Lib.hid ⟨by rw [hx10, ← hsx9]; exact HL.out, by decide⟩
  have hsx10 : x10.heap.size = ax8 + 3 := by rw [hx10, size_alloc1, hsx9]
  rw [← hx10]
  have hB' := Lib.hid (hB.out.trans (hb.mono hB.out.size))
  clear hB
  have hB := hB'
  clear hB'
  have HSh := Lib.hid (And.intro (Kd.C_below HSh.out.1 hb) HSh.out.2)
  have HSe := Lib.hid (And.intro (Kd.C_below HSe.out.1 hb) HSe.out.2)
  have HSp := Lib.hid (And.intro (Kd.C_below HSp.out.1 hb) HSp.out.2)
  have HSr := Lib.hid (And.intro (Kd.C_below HSr.out.1 hb) HSr.out.2)
  have HSq0 := Lib.hid (And.intro (Kd.C_below HSq0.out.1 hb) HSq0.out.2)
  have HSq1 := Lib.hid (And.intro (Kd.C_below HSq1.out.1 hb) HSq1.out.2)
  clear hb HL hx10
  obtain ⟨x11, hx11⟩ : ∃ x, x = x10.alloc (.cells #[.slice (some ⟨ax8, 0, none⟩) 3 3, .slice (some ⟨(ax8 + 1), 0, none⟩) 3 3, .slice (some ⟨(ax8 + 2), 0, none⟩) 2 2] 23) := ⟨_, rfl⟩
  have hb : Below x10.heap.size x10 x11 := by rw [hx11]; exact (Below.refl _ _).alloc (Nat.le_refl _) _
  have HL := Lib.hid (rows_lit x10 [(⟨ax8, 0, none⟩, [0, 1, 3]), (⟨(ax8 + 1), 0, none⟩, [2, 6, 7]), (⟨(ax8 + 2), 0, none⟩, [4, 5])] (by simp) (by intro q hq; simp only [List.mem_cons, List.not_mem_nil, or_false] at hq; rcases hq with rfl | rfl | rfl; exact HSq0.out.1; exact HSq1.out.1; exact HSq2.out.1))
  have HSq : Hid (Kd.C (Kd.slice 3 (Kd.int .i64)) x11 (some ⟨(ax8 + 3), 0, none⟩) ([[0, 1, 3], [2, 6, 7], [4, 5]] : List (List Int)).length [[0, 1, 3], [2, 6, 7], [4, 5]] ∧ ([[0, 1, 3], [2, 6, 7], [4, 5]] : List (List Int)).length ≤ 3) := Lib.hid ⟨by rw [hx11, ← hsx10]; exact HL.out, by decide⟩
  have hsx11 : x11.heap.size = ax8 + 4 := by rw [hx11, size_alloc1, hsx10]
  rw [← hx11]
  have hB' := Lib.hid (hB.out.trans (hb.mono hB.out.size))
  clear hB
  have hB := hB'
  clear hB'
  have HSh := Lib.hid (And.intro (Kd.C_below HSh.out.1 hb) HSh.out.2)
  have HSe := Lib.hid (And.intro (Kd.C_below HSe.out.1 hb) HSe.out.2)
  have HSp := Lib.hid (And.intro (Kd.C_below HSp.out.1 hb) HSp.out.2)
  have HSr := Lib.hid (And.intro (Kd.C_below HSr.out.1 hb) HSr.out.2)
  have HSq0 := Lib.hid (And.intro (Kd.C_below HSq0.out.1 hb) HSq0.out.2)
  have HSq1 := Lib.hid (And.intro (Kd.C_below HSq1.out.1 hb) HSq1.out.2)
  have HSq2 := Lib.hid (And.intro (Kd.C_below HSq2.out.1 hb) HSq2.out.2)
  clear hb HL hx11
  refine (gap_CheckRuns.calls 100 Ah ch [5, 2, 8, 1, 9, 3, 7, 4, 6] 2 (some ⟨(ax8 + 3), 0, none⟩) 3 [[0, 1, 3], [2, 6, 7], [4, 5]] 0 14 x11 HSh.out.1 HSh.out.2 HSq.out.1 HSq.out.2 v8).mono ?_
  rintro e w8 ⟨rfl, hb⟩
  have HSh := Lib.hid (And.intro (Kd.C_below HSh.out.1 hb) HSh.out.2)
  have HSe := Lib.hid (And.intro (Kd.C_below HSe.out.1 hb) HSe.out.2)
  have HSp := Lib.hid (And.intro (Kd.C_below HSp.out.1 hb) HSp.out.2)
  have HSr := Lib.hid (And.intro (Kd.C_below HSr.out.1 hb) HSr.out.2)
  have hB' := Lib.hid (hB.out.trans (hb.mono hB.out.size))
  clear hB
  have hB := hB'
  clear hB' hb
  go_wp2_with fail
  refine (gap_Shape.calls 100 Ah ch [5, 2, 8, 1, 9, 3, 7, 4, 6] [4, 3, 2] 0 w8 HSh.out.1 HSh.out.2 v9).mono ?_
  rintro e w9 ⟨v, rfl, hrv, hb⟩
  obtain ⟨As, cs, rfl, hl, hC⟩ := Kd.R_reads hrv
  have HR := Lib.hid (And.intro hC hl)
  clear hrv hl hC
  have HSh := Lib.hid (And.intro (Kd.C_below HSh.out.1 hb) HSh.out.2)
  have HSe := Lib.hid (And.intro (Kd.C_below HSe.out.1 hb) HSe.out.2)
  have HSp := Lib.hid (And.intro (Kd.C_below HSp.out.1 hb) HSp.out.2)
  have HSr := Lib.hid (And.intro (Kd.C_below HSr.out.1 hb) HSr.out.2)
  have hB' := Lib.hid (hB.out.trans (hb.mono hB.out.size))
  clear hB
  have hB := hB'
  clear hB' hb
  have HSs := HR
  clear HR
  go_wp2_with fail
  refine (gap_Shape.calls 100 Ae ce [2, 2, 1, 2] [3, 1] 0 w9 HSe.out.1 HSe.out.2 v10).mono ?_
  rintro e w10 ⟨v, rfl, hrv, hb⟩
  obtain ⟨Az, cz, rfl, hl, hC⟩ := Kd.R_reads hrv
  have HR := Lib.hid (And.intro hC hl)
  clear hrv hl hC
  have HSh := Lib.hid (And.intro (Kd.C_below HSh.out.1 hb) HSh.out.2)
  have HSp := Lib.hid (And.intro (Kd.C_below HSp.out.1 hb) HSp.out.2)
  have HSr := Lib.hid (And.intro (Kd.C_below HSr.out.1 hb) HSr.out.2)
  have HSs := Lib.hid (And.intro (Kd.C_below HSs.out.1 hb) HSs.out.2)
  have hB' := Lib.hid (hB.out.trans (hb.mono hB.out.size))
  clear hB
  have hB := hB'
  clear hB' hb
  have HSz := HR
  clear HR
  go_wp2_with fail
  refine (gap_Turning.calls 100 Ah ch [5, 2, 8, 1, 9, 3, 7, 4, 6] 2 [0, 1, 0, -1, 0, 1, -1, 1, 1] 0 w10 HSh.out.1 HSh.out.2 v11).mono ?_
  rintro e w11 ⟨v, rfl, hrv, hb⟩
  obtain ⟨At, ct, rfl, hl, hC⟩ := Kd.R_reads hrv
  have HR := Lib.hid (And.intro hC hl)
  clear hrv hl hC
  have HSh := Lib.hid (And.intro (Kd.C_below HSh.out.1 hb) HSh.out.2)
  have HSp := Lib.hid (And.intro (Kd.C_below HSp.out.1 hb) HSp.out.2)
  have HSr := Lib.hid (And.intro (Kd.C_below HSr.out.1 hb) HSr.out.2)
  have HSs := Lib.hid (And.intro (Kd.C_below HSs.out.1 hb) HSs.out.2)
  have HSz := Lib.hid (And.intro (Kd.C_below HSz.out.1 hb) HSz.out.2)
  have hB' := Lib.hid (hB.out.trans (hb.mono hB.out.size))
  clear hB
  have hB := hB'
  clear hB' hb
  have HSt := HR
  clear HR
  go_wp2_with fail
  refine (gap_Runs.calls 100 Ah ch [5, 2, 8, 1, 9, 3, 7, 4, 6] 2 [[2], [5], [7], [0, 1, 3], [4, 6, 8]] 0 w11 HSh.out.1 HSh.out.2 v12).mono ?_
  rintro e w12 ⟨v, rfl, hrv, hb⟩
  obtain ⟨Al, cl, rfl, hl, hC⟩ := Kd.S_reads hrv
  have HR := Lib.hid (And.intro hC hl)
  clear hrv hl hC
  have HSh := Lib.hid (And.intro (Kd.C_below HSh.out.1 hb) HSh.out.2)
  have HSp := Lib.hid (And.intro (Kd.C_below HSp.out.1 hb) HSp.out.2)
  have HSr := Lib.hid (And.intro (Kd.C_below HSr.out.1 hb) HSr.out.2)
  have HSs := Lib.hid (And.intro (Kd.C_below HSs.out.1 hb) HSs.out.2)
  have HSz := Lib.hid (And.intro (Kd.C_below HSz.out.1 hb) HSz.out.2)
  have HSt := Lib.hid (And.intro (Kd.C_below HSt.out.1 hb) HSt.out.2)
  have hB' := Lib.hid (hB.out.trans (hb.mono hB.out.size))
  clear hB
  have hB := hB'
  clear hB' hb
  have HSl := HR
  clear HR
  go_wp2_with fail
  refine (Calls.mono (peaveyref03_CheckTurning.calls 100 Ah ch [5, 2, 8, 1, 9, 3, 7, 4, 6] 2 At ct [0, 1, 0, -1, 0, 1, -1, 1, 1] 7 0 w12 HSh.out.1 HSh.out.2 HSt.out.1 HSt.out.2 v13) ?_)
  rintro e w13 ⟨rfl, hb'⟩
  have hb := hb'.below
  clear hb'
  have HSh := Lib.hid (And.intro (Kd.C_below HSh.out.1 hb) HSh.out.2)
  have HSp := Lib.hid (And.intro (Kd.C_below HSp.out.1 hb) HSp.out.2)
  have HSr := Lib.hid (And.intro (Kd.C_below HSr.out.1 hb) HSr.out.2)
  have HSs := Lib.hid (And.intro (Kd.C_below HSs.out.1 hb) HSs.out.2)
  have HSz := Lib.hid (And.intro (Kd.C_below HSz.out.1 hb) HSz.out.2)
  have HSl := Lib.hid (And.intro (Kd.C_below HSl.out.1 hb) HSl.out.2)
  have hB' := Lib.hid (hB.out.trans (hb.mono hB.out.size))
  clear hB
  have hB := hB'
  clear hB' hb
  go_wp2_with fail
  refine (peaveyref03_CheckRuns.calls 100 Ah ch [5, 2, 8, 1, 9, 3, 7, 4, 6] 2 Al cl [[2], [5], [7], [0, 1, 3], [4, 6, 8]] 7 0 w13 HSh.out.1 HSh.out.2 HSl.out.1 HSl.out.2 v14).mono ?_
  rintro e w14 ⟨rfl, hb⟩
  have HSp := Lib.hid (And.intro (Kd.C_below HSp.out.1 hb) HSp.out.2)
  have HSr := Lib.hid (And.intro (Kd.C_below HSr.out.1 hb) HSr.out.2)
  have HSs := Lib.hid (And.intro (Kd.C_below HSs.out.1 hb) HSs.out.2)
  have HSz := Lib.hid (And.intro (Kd.C_below HSz.out.1 hb) HSz.out.2)
  have hB' := Lib.hid (hB.out.trans (hb.mono hB.out.size))
  clear hB
  have hB := hB'
  clear hB' hb
  go_wp2_with fail
  obtain ⟨x12, hx12⟩ : ∃ x, x = w14.alloc (.cells #[.int .i64 0, .int .i64 1, .int .i64 0, .int .i64 2, .int .i64 0, .int .i64 1, .int .i64 1, .int .i64 2, .int .i64 2] 3) := ⟨_, rfl⟩
  have hb : Below w14.heap.size w14 x12 := by rw [hx12]; exact (Below.refl _ _).alloc (Nat.le_refl _) _
  have HL := Lib.hid (reads_lit w14 [0, 1, 0, 2, 0, 1, 1, 2, 2] (by decide))
  obtain ⟨ax12, hax12⟩ : ∃ a, a = w14.heap.size := ⟨_, rfl⟩
  have HSq : Hid (Kd.C (Kd.int .i64) x12 (some ⟨ax12, 0, none⟩) ([0, 1, 0, 2, 0, 1, 1, 2, 2] : List Int).length [0, 1, 0, 2, 0, 1, 1, 2, 2] ∧ ([0, 1, 0, 2, 0, 1, 1, 2, 2] : List Int).length ≤ 9) := Lib.hid ⟨by rw [hx12, hax12]; exact HL.out, by decide⟩
  have hsx12 : x12.heap.size = ax12 + 1 := by rw [hx12, size_alloc1, hax12]
  rw [← hx12]
  (try rw [← hax12])
  have hB' := Lib.hid (hB.out.trans (hb.mono hB.out.size))
  clear hB
  have hB := hB'
  clear hB'
  have HSp := Lib.hid (And.intro (Kd.C_below HSp.out.1 hb) HSp.out.2)
  have HSr := Lib.hid (And.intro (Kd.C_below HSr.out.1 hb) HSr.out.2)
  have HSs := Lib.hid (And.intro (Kd.C_below HSs.out.1 hb) HSs.out.2)
  have HSz := Lib.hid (And.intro (Kd.C_below HSz.out.1 hb) HSz.out.2)
  clear hb HL hx12
  refine (peaveylaw03_Ints.calls 100 Ap cp [0, 1, 0, 2, 0, 1, 1, 2, 2] (some ⟨ax12, 0, none⟩) 9 [0, 1, 0, 2, 0, 1, 1, 2, 2] true x12 HSp.out.1 HSp.out.2 HSq.out.1 HSq.out.2 is0).mono ?_
  rintro e w15 ⟨rfl, hb'⟩
  have hb := hb'.below
  clear hb'
  have HSr := Lib.hid (And.intro (Kd.C_below HSr.out.1 hb) HSr.out.2)
  have HSs := Lib.hid (And.intro (Kd.C_below HSs.out.1 hb) HSs.out.2)
  have HSz := Lib.hid (And.intro (Kd.C_below HSz.out.1 hb) HSz.out.2)
  have hB' := Lib.hid (hB.out.trans (hb.mono hB.out.size))
  clear hB
  have hB := hB'
  clear hB' hb
  go_wp2_with fail
  obtain ⟨x13, hx13⟩ : ∃ x, x = w15.alloc (.cells #[.int .i64 0, .int .i64 1, .int .i64 3] 3) := ⟨_, rfl⟩
  have hb : Below w15.heap.size w15 x13 := by rw [hx13]; exact (Below.refl _ _).alloc (Nat.le_refl _) _
  have HL := Lib.hid (reads_lit w15 [0, 1, 3] (by decide))
  obtain ⟨ax13, hax13⟩ : ∃ a, a = w15.heap.size := ⟨_, rfl⟩
  have HSq : Hid (Kd.C (Kd.int .i64) x13 (some ⟨ax13, 0, none⟩) ([0, 1, 3] : List Int).length [0, 1, 3] ∧ ([0, 1, 3] : List Int).length ≤ 3) := Lib.hid ⟨by rw [hx13, hax13]; exact HL.out, by decide⟩
  have hsx13 : x13.heap.size = ax13 + 1 := by rw [hx13, size_alloc1, hax13]
  rw [← hx13]
  (try rw [← hax13])
  have hB' := Lib.hid (hB.out.trans (hb.mono hB.out.size))
  clear hB
  have hB := hB'
  clear hB'
  have HSr := Lib.hid (And.intro (Kd.C_below HSr.out.1 hb) HSr.out.2)
  have HSs := Lib.hid (And.intro (Kd.C_below HSs.out.1 hb) HSs.out.2)
  have HSz := Lib.hid (And.intro (Kd.C_below HSz.out.1 hb) HSz.out.2)
  clear hb HL hx13
  refine (peaveylaw03_Ints.calls 100 Ar cr [0, 1, 3] (some ⟨ax13, 0, none⟩) 3 [0, 1, 3] true x13 HSr.out.1 HSr.out.2 HSq.out.1 HSq.out.2 is1).mono ?_
  rintro e w16 ⟨rfl, hb'⟩
  have hb := hb'.below
  clear hb'
  have HSs := Lib.hid (And.intro (Kd.C_below HSs.out.1 hb) HSs.out.2)
  have HSz := Lib.hid (And.intro (Kd.C_below HSz.out.1 hb) HSz.out.2)
  have hB' := Lib.hid (hB.out.trans (hb.mono hB.out.size))
  clear hB
  have hB := hB'
  clear hB' hb
  go_wp2_with fail
  obtain ⟨x14, hx14⟩ : ∃ x, x = w16.alloc (.cells #[.int .i64 4, .int .i64 3, .int .i64 2] 3) := ⟨_, rfl⟩
  have hb : Below w16.heap.size w16 x14 := by rw [hx14]; exact (Below.refl _ _).alloc (Nat.le_refl _) _
  have HL := Lib.hid (reads_lit w16 [4, 3, 2] (by decide))
  obtain ⟨ax14, hax14⟩ : ∃ a, a = w16.heap.size := ⟨_, rfl⟩
  have HSq : Hid (Kd.C (Kd.int .i64) x14 (some ⟨ax14, 0, none⟩) ([4, 3, 2] : List Int).length [4, 3, 2] ∧ ([4, 3, 2] : List Int).length ≤ 3) := Lib.hid ⟨by rw [hx14, hax14]; exact HL.out, by decide⟩
  have hsx14 : x14.heap.size = ax14 + 1 := by rw [hx14, size_alloc1, hax14]
  rw [← hx14]
  (try rw [← hax14])
  have hB' := Lib.hid (hB.out.trans (hb.mono hB.out.size))
  clear hB
  have hB := hB'
  clear hB'
  have HSs := Lib.hid (And.intro (Kd.C_below HSs.out.1 hb) HSs.out.2)
  have HSz := Lib.hid (And.intro (Kd.C_below HSz.out.1 hb) HSz.out.2)
  clear hb HL hx14
  refine (peaveylaw03_Ints.calls 100 As cs [4, 3, 2] (some ⟨ax14, 0, none⟩) 3 [4, 3, 2] true x14 HSs.out.1 HSs.out.2 HSq.out.1 HSq.out.2 is2).mono ?_
  rintro e w17 ⟨rfl, hb'⟩
  have hb := hb'.below
  clear hb'
  have HSz := Lib.hid (And.intro (Kd.C_below HSz.out.1 hb) HSz.out.2)
  have hB' := Lib.hid (hB.out.trans (hb.mono hB.out.size))
  clear hB
  have hB := hB'
  clear hB' hb
  go_wp2_with fail
  obtain ⟨x15, hx15⟩ : ∃ x, x = w17.alloc (.cells #[.int .i64 3, .int .i64 1] 3) := ⟨_, rfl⟩
  have hb : Below w17.heap.size w17 x15 := by rw [hx15]; exact (Below.refl _ _).alloc (Nat.le_refl _) _
  have HL := Lib.hid (reads_lit w17 [3, 1] (by decide))
  obtain ⟨ax15, hax15⟩ : ∃ a, a = w17.heap.size := ⟨_, rfl⟩
  have HSq : Hid (Kd.C (Kd.int .i64) x15 (some ⟨ax15, 0, none⟩) ([3, 1] : List Int).length [3, 1] ∧ ([3, 1] : List Int).length ≤ 2) := Lib.hid ⟨by rw [hx15, hax15]; exact HL.out, by decide⟩
  have hsx15 : x15.heap.size = ax15 + 1 := by rw [hx15, size_alloc1, hax15]
  rw [← hx15]
  (try rw [← hax15])
  have hB' := Lib.hid (hB.out.trans (hb.mono hB.out.size))
  clear hB
  have hB := hB'
  clear hB'
  have HSz := Lib.hid (And.intro (Kd.C_below HSz.out.1 hb) HSz.out.2)
  clear hb HL hx15
  refine (peaveylaw03_Ints.calls 100 Az cz [3, 1] (some ⟨ax15, 0, none⟩) 2 [3, 1] true x15 HSz.out.1 HSz.out.2 HSq.out.1 HSq.out.2 is3).mono ?_
  rintro e w18 ⟨rfl, hb'⟩
  have hb := hb'.below
  clear hb'
  have hB' := Lib.hid (hB.out.trans (hb.mono hB.out.size))
  clear hB
  have hB := hB'
  clear hB' hb
  go_wp2
  go_ret
  exact ⟨rfl, hB.out⟩
/-- what Works comes to -/
def peaveylaw03_Works.f (_ : Nat) : Option Bool := some true
theorem peaveylaw03_Works.mono : ∀ k, LeO (peaveylaw03_Works.f k) (peaveylaw03_Works.f (k + 1)) := fun _ _ h => h
theorem peaveylaw03_Works.calls (k : Nat) (r : Bool) (w : World) (h : peaveylaw03_Works.f k = some r) : Calls Try.prog 18 #[] w fun e w' => e = .returned (.bool r) ∧ Below w.heap.size w w' := by
  obtain rfl := Option.some.inj h
  exact works_true w
theorem works_k (k : Nat) : peaveylaw03_Works.f k = some true := rfl
end Go.Proofs.Ytmfonbonfhngnaa.Hand
