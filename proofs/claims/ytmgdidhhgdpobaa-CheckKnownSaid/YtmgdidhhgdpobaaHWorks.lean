/- Works holds: the chapter's examples, by the contracts of the functions called. -/
import Derived.Test.YtmgdidhhgdpobaaHC
import Derived.Test.YtmgdidhhgdpobaaHB
import Derived.Test.YtmgdidhhgdpobaaPrC1
namespace Go.Proofs.Ytmgdidhhgdpobaa.Hand
set_option linter.unusedVariables false
set_option linter.unusedSimpArgs false
open Go.RowKit Go.Maps Go.Proofs.YtmgdidhhgdpobaaW.PrintWords Go.Proofs.YtmgdidhhgdpobaaW.PrintLast Go.Proofs.YtmgdidhhgdpobaaW.PrintMore Go.Proofs.Ytmgdidhhgdpobaa.PrA Go.Proofs.Ytmgdidhhgdpobaa.PrC

theorem reads3 (w : World) (x y z : Int) : Kd.C (Kd.int .i64) (w.alloc (.cells #[.int .i64 x, .int .i64 y, .int .i64 z] 3)) (some ⟨w.heap.size, 0, none⟩) [x, y, z].length [x, y, z] :=
  Kd.C_of_reads (d := (0 : Int)) (h1 := fun _ => rfl) ⟨rfl, by simp, fun _ => ⟨_, rfl, fun j hj => by
    have : j = 0 ∨ j = 1 ∨ j = 2 := by simp at hj; omega
    rw [add_plain]
    rcases this with rfl | rfl | rfl <;> simp⟩⟩
theorem of_any (v : Value) (w : World) : Calls Try.prog 56 #[v] w fun e w' => e = .returned v ∧ Below w.heap.size w w' := by
  go_enter Try.func56, Try.ntmps56
  go_wp2
  go_ret
  exact ⟨rfl, Below.refl _ _⟩

/-- cells are there -/
def CellsAt (w : World) (l : List (Addr × Value)) : Prop := ∀ x ∈ l, w.cell? x.1 = some x.2
def Held (w0 w : World) (l : List (Addr × Value)) : Prop := CellsAt w l ∧ Below w0.heap.size w0 w
theorem held_step {w0 w w' : World} {l : List (Addr × Value)} (h : Held w0 w l) (hb : Below w.heap.size w w') : Held w0 w' l :=
  ⟨fun x hx => by rw [hb.cell (cell_size (h.1 x hx))]; exact h.1 x hx, h.2.trans (hb.mono h.2.size)⟩
theorem held_more {w0 w : World} {l m : List (Addr × Value)} (h : Held w0 w l) (hm : CellsAt w m) : Held w0 w (m ++ l) :=
  ⟨fun x hx => by
    rcases List.mem_append.1 hx with hx | hx
    · exact hm x hx
    · exact h.1 x hx, h.2⟩
theorem cells_two (w : World) (x y : Int) (t : TypeId) : CellsAt (w.alloc (.cells #[.int .i64 x, .int .i64 y] t)) [(⟨w.heap.size, 0, none⟩, .int .i64 x), (⟨w.heap.size, 1, none⟩, .int .i64 y)] := by
  intro z hz
  simp only [List.mem_cons, List.not_mem_nil, or_false] at hz
  rcases hz with rfl | rfl <;> simp
theorem cells_seven (w : World) (a b c d e f g : Int) (t : TypeId) : CellsAt (w.alloc (.cells #[.int .i64 a, .int .i64 b, .int .i64 c, .int .i64 d, .int .i64 e, .int .i64 f, .int .i64 g] t)) [(⟨w.heap.size, 0, none⟩, .int .i64 a), (⟨w.heap.size, 1, none⟩, .int .i64 b), (⟨w.heap.size, 2, none⟩, .int .i64 c), (⟨w.heap.size, 3, none⟩, .int .i64 d), (⟨w.heap.size, 4, none⟩, .int .i64 e), (⟨w.heap.size, 5, none⟩, .int .i64 f), (⟨w.heap.size, 6, none⟩, .int .i64 g)] := by
  intro z hz
  simp only [List.mem_cons, List.not_mem_nil, or_false] at hz
  rcases hz with rfl | rfl | rfl | rfl | rfl | rfl | rfl <;> simp
theorem wp_region_held_list {P : Program} {l : List Oper} {k id : Nat} {Q : Exit → Act → World → Prop} {a : Act} {w : World} (hk : l.length = k) (S : World → Prop) (hm : P.follows .mixedOrders = true)
    (h : wpAnyH P .any l.toArray Q S k (Array.replicate k false) a w.drew) : (Code.region id l.toArray true).wp P Q a w := by
  subst hk
  exact wp_region_held hm h
theorem held_now {w w' : World} (h : Below w.heap.size w w') {p : Addr} {v : Value} (hc : w.cell? p = some v) : w'.cell? p = some v := by rw [h.cell (cell_size hc)]; exact hc

theorem val1 : check_Choose.f 5 2 = some (10, 0) := by kernel_rfl
theorem val2 : check_Samples.f 10 3 4 1 = some (105, 0) := by kernel_rfl
theorem val3 : check_AtMost.f 10 3 4 1 = some (140, 0) := by kernel_rfl
theorem val4 : check_Chance.f 10 3 4 1 = some (2, 3, 0) := by kernel_rfl
theorem val5 : check_Draw.f 5 3 4 = some ([0, 2, 4], 0) := by kernel_rfl
theorem val6 : check_Draw.f 5 3 10 = some ([], 5) := by kernel_rfl
theorem val7 : check_Number.f 5 [0, 2, 4] = some (4, 0) := by kernel_rfl
theorem val8 : check_Number.f 5 [2, 0] = some (0, 2) := by kernel_rfl
theorem val9 : check_Between.f 10 4 1 1 10 = some (1, 6, 0) := by kernel_rfl
theorem val10 : check_Likely.f 10 4 1 = some (2, 0) := by kernel_rfl
theorem val11 : check_Plan.f 10 1 5 1 10 1 10 = some (6, 1, 0) := by kernel_rfl
theorem val12 : check_CheckPlan.f 10 1 5 1 10 1 10 5 1 = some 13 := by kernel_rfl
theorem val13 : check_Sides.f 10 1 5 1 10 1 10 5 1 = some (0, 26, 0) := by kernel_rfl
theorem valI : peaveylaw10_Ints.f 5 [0, 2, 4] [0, 2, 4] = some true := by kernel_rfl

/-- what Works comes to -/
def peaveylaw10_Works.f : Option Bool := some true
set_option maxHeartbeats 16000000 in
set_option maxRecDepth 100000 in
theorem works_any (w : World) : Calls Try.prog 25 #[] w fun e w' => e = .returned (.bool true) ∧ Below w.heap.size w w' := by
  have hu46 := Try.underlying46
  have hu48 := Try.underlying48
  have hu27 := Try.underlying27
  have hu39 := Try.underlying39
  have T0 := Lib.hid (fun W => peaveylaw10_Test.calls 10 1 5 10 1 5 1 10 1 10 W rfl)
  have T1 := Lib.hid (fun W => check_Choose.calls 5 2 10 0 W val1)
  have T2 := Lib.hid (fun W => check_Samples.calls 10 3 4 1 105 0 W val2)
  have T3 := Lib.hid (fun W => check_AtMost.calls 10 3 4 1 140 0 W val3)
  have T4 := Lib.hid (fun W => check_Chance.calls 10 3 4 1 2 3 0 W val4)
  have T9 := Lib.hid (fun W => check_Between.calls 10 4 1 1 10 1 6 0 W val9)
  have T10 := Lib.hid (fun W => check_Likely.calls 10 4 1 2 0 W val10)
  have T11 := Lib.hid (fun W => check_Plan.calls 10 1 5 1 10 1 10 6 1 0 W val11)
  have T12 := Lib.hid (fun W => check_CheckPlan.calls 10 1 5 1 10 1 10 5 1 13 W val12)
  have T13 := Lib.hid (fun W => check_Sides.calls 10 1 5 1 10 1 10 5 1 0 26 0 W val13)
  have TF := Lib.hid (fun a b W => peaveylaw10_frac.calls a b a b W rfl)
  have TP := Lib.hid (fun a b W => peaveylaw10_plan.calls a b a b W rfl)
  have TR := Lib.hid (fun a b W => peaveylaw10_rg.calls a b a b W rfl)
  have TO := Lib.hid (fun v W => of_any v W)
  have H0 : Hid (Held w w []) := Lib.hid ⟨fun _ h => (by cases h), Below.refl _ _⟩
  go_enter Try.func25, Try.ntmps25
  go_wp2_with fail
  refine (T0.out _).mono ?_
  rintro e w1 ⟨rfl, hb⟩
  have H1 := Lib.hid (held_step H0.out hb)
  clear H0
  clear hb
  go_wp2_with fail
  obtain ⟨w2, hw⟩ : ∃ w', w' = w1.alloc (.cells #[.int .i64 10, .int .i64 1, .int .i64 5, .int .i64 1, .int .i64 10, .int .i64 1, .int .i64 10] 46) := ⟨_, rfl⟩
  rw [← hw]
  have H2 : Hid (Held w w2 ([(⟨w1.heap.size, 0, none⟩, .int .i64 10), (⟨w1.heap.size, 1, none⟩, .int .i64 1), (⟨w1.heap.size, 2, none⟩, .int .i64 5), (⟨w1.heap.size, 3, none⟩, .int .i64 1), (⟨w1.heap.size, 4, none⟩, .int .i64 10), (⟨w1.heap.size, 5, none⟩, .int .i64 1), (⟨w1.heap.size, 6, none⟩, .int .i64 10)] ++ [])) := Lib.hid (by rw [hw]; exact held_more (held_step H1.out ((Below.refl _ _).alloc (Nat.le_refl _) _)) (cells_seven _ _ _ _ _ _ _ _ _))
  have hg : Below w1.heap.size w1 w2 := by rw [hw]; exact (Below.refl _ _).alloc (Nat.le_refl _) _
  clear hw hg
  refine (T1.out _).mono ?_
  rintro e w3 ⟨rfl, hb⟩
  have H3 := Lib.hid (held_step H2.out hb)
  clear H2
  clear hb
  go_wp2_with fail
  refine (T2.out _).mono ?_
  rintro e w4 ⟨rfl, hb⟩
  have H4 := Lib.hid (held_step H3.out hb)
  clear H3
  clear hb
  go_wp2_with fail
  refine (T3.out _).mono ?_
  rintro e w5 ⟨rfl, hb⟩
  have H5 := Lib.hid (held_step H4.out hb)
  clear H4
  clear hb
  go_wp2_with fail
  refine (T4.out _).mono ?_
  rintro e w6 ⟨rfl, hb⟩
  have H6 := Lib.hid (held_step H5.out hb)
  clear H5
  clear hb
  go_wp2_with fail
  obtain ⟨w7, hw⟩ : ∃ w', w' = w6.alloc (.cells #[.int .i64 2, .int .i64 3] 27) := ⟨_, rfl⟩
  rw [← hw]
  have H7 : Hid (Held w w7 ([(⟨w6.heap.size, 0, none⟩, .int .i64 2), (⟨w6.heap.size, 1, none⟩, .int .i64 3)] ++ ([(⟨w1.heap.size, 0, none⟩, .int .i64 10), (⟨w1.heap.size, 1, none⟩, .int .i64 1), (⟨w1.heap.size, 2, none⟩, .int .i64 5), (⟨w1.heap.size, 3, none⟩, .int .i64 1), (⟨w1.heap.size, 4, none⟩, .int .i64 10), (⟨w1.heap.size, 5, none⟩, .int .i64 1), (⟨w1.heap.size, 6, none⟩, .int .i64 10)] ++ []))) := Lib.hid (by rw [hw]; exact held_more (held_step H6.out ((Below.refl _ _).alloc (Nat.le_refl _) _)) (cells_two _ _ _ _))
  have hg : Below w6.heap.size w6 w7 := by rw [hw]; exact (Below.refl _ _).alloc (Nat.le_refl _) _
  clear hw hg
  refine (check_Draw.calls 5 3 4 [0, 2, 4] 0 _ val5).mono ?_
  rintro e w8 ⟨v0, rfl, hR, hb⟩
  have H8 := Lib.hid (held_step H7.out hb)
  clear H7
  obtain ⟨A, c, hv, hcc, hrd⟩ := Kd.R_reads hR
  have hv : v0 = .slice A 3 c := hv
  subst hv
  have R0 := Lib.hid (And.intro hcc hrd)
  clear hcc hrd hR hb
  go_wp2_with fail
  refine (check_Draw.calls 5 3 10 [] 5 _ val6).mono ?_
  rintro e w9 ⟨v1, rfl, hR, hb⟩
  have H9 := Lib.hid (held_step H8.out hb)
  clear H8
  obtain ⟨A1, c1, hv, -, -⟩ := Kd.R_reads hR
  have hv : v1 = .slice A1 0 c1 := hv
  subst hv
  have R1 := Lib.hid (And.intro R0.out.1 (Kd.C_below R0.out.2 hb))
  clear R0 hb hR
  go_wp2_with fail
  obtain ⟨w10, hw⟩ : ∃ w', w' = w9.alloc (.cells #[.int .i64 0, .int .i64 2, .int .i64 4] 3) := ⟨_, rfl⟩
  rw [← hw]
  have H10 : Hid (Held w w10 ([(⟨w6.heap.size, 0, none⟩, .int .i64 2), (⟨w6.heap.size, 1, none⟩, .int .i64 3)] ++ ([(⟨w1.heap.size, 0, none⟩, .int .i64 10), (⟨w1.heap.size, 1, none⟩, .int .i64 1), (⟨w1.heap.size, 2, none⟩, .int .i64 5), (⟨w1.heap.size, 3, none⟩, .int .i64 1), (⟨w1.heap.size, 4, none⟩, .int .i64 10), (⟨w1.heap.size, 5, none⟩, .int .i64 1), (⟨w1.heap.size, 6, none⟩, .int .i64 10)] ++ []))) := Lib.hid (by rw [hw]; exact held_step H9.out ((Below.refl _ _).alloc (Nat.le_refl _) _))
  have hg : Below w9.heap.size w9 w10 := by rw [hw]; exact (Below.refl _ _).alloc (Nat.le_refl _) _
  have R2 := Lib.hid (And.intro R1.out.1 (Kd.C_below R1.out.2 hg))
  clear R1
  have hrd := reads3 w9 0 2 4
  rw [← hw] at hrd
  clear hw hg
  refine (TO.out _ _).mono ?_
  rintro e w11 ⟨rfl, hb⟩
  have H11 := Lib.hid (held_step H10.out hb)
  clear H10
  have R3 := Lib.hid (And.intro R2.out.1 (Kd.C_below R2.out.2 hb))
  clear R2
  have hrd := Kd.C_below hrd hb
  have HRD := Lib.hid hrd
  clear hb hrd
  go_wp2_with fail
  refine (check_Number.calls 5 _ 3 [0, 2, 4] 4 0 _ HRD.out (by decide) val7).mono ?_
  rintro e w12 ⟨rfl, hb⟩
  have H12 := Lib.hid (held_step H11.out hb)
  clear H11
  have R4 := Lib.hid (And.intro R3.out.1 (Kd.C_below R3.out.2 hb))
  clear R3
  clear hb HRD
  go_wp2_with fail
  obtain ⟨w13, hw⟩ : ∃ w', w' = w12.alloc (.cells #[.int .i64 2, .int .i64 0] 3) := ⟨_, rfl⟩
  rw [← hw]
  have H13 : Hid (Held w w13 ([(⟨w6.heap.size, 0, none⟩, .int .i64 2), (⟨w6.heap.size, 1, none⟩, .int .i64 3)] ++ ([(⟨w1.heap.size, 0, none⟩, .int .i64 10), (⟨w1.heap.size, 1, none⟩, .int .i64 1), (⟨w1.heap.size, 2, none⟩, .int .i64 5), (⟨w1.heap.size, 3, none⟩, .int .i64 1), (⟨w1.heap.size, 4, none⟩, .int .i64 10), (⟨w1.heap.size, 5, none⟩, .int .i64 1), (⟨w1.heap.size, 6, none⟩, .int .i64 10)] ++ []))) := Lib.hid (by rw [hw]; exact held_step H12.out ((Below.refl _ _).alloc (Nat.le_refl _) _))
  have hg : Below w12.heap.size w12 w13 := by rw [hw]; exact (Below.refl _ _).alloc (Nat.le_refl _) _
  have R5 := Lib.hid (And.intro R4.out.1 (Kd.C_below R4.out.2 hg))
  clear R4
  have hrd := reads2 w12 2 0
  rw [← hw] at hrd
  clear hw hg
  refine (TO.out _ _).mono ?_
  rintro e w14 ⟨rfl, hb⟩
  have H14 := Lib.hid (held_step H13.out hb)
  clear H13
  have R6 := Lib.hid (And.intro R5.out.1 (Kd.C_below R5.out.2 hb))
  clear R5
  have hrd := Kd.C_below hrd hb
  have HRD := Lib.hid hrd
  clear hb hrd
  go_wp2_with fail
  refine (check_Number.calls 5 _ 2 [2, 0] 0 2 _ HRD.out (by decide) val8).mono ?_
  rintro e w15 ⟨rfl, hb⟩
  have H15 := Lib.hid (held_step H14.out hb)
  clear H14
  have R7 := Lib.hid (And.intro R6.out.1 (Kd.C_below R6.out.2 hb))
  clear R6
  clear hb HRD
  go_wp2_with fail
  refine (TF.out _ _ _).mono ?_
  rintro e w16 ⟨rfl, hb⟩
  have H16 := Lib.hid (held_step H15.out hb)
  clear H15
  have R8 := Lib.hid (And.intro R7.out.1 (Kd.C_below R7.out.2 hb))
  clear R7
  clear hb
  go_wp2_with fail
  refine (T9.out _).mono ?_
  rintro e w17 ⟨rfl, hb⟩
  have H17 := Lib.hid (held_step H16.out hb)
  clear H16
  have R9 := Lib.hid (And.intro R8.out.1 (Kd.C_below R8.out.2 hb))
  clear R8
  clear hb
  go_wp2_with fail
  obtain ⟨w18, hw⟩ : ∃ w', w' = w17.alloc (.cells #[.int .i64 1, .int .i64 6] 39) := ⟨_, rfl⟩
  rw [← hw]
  have H18 : Hid (Held w w18 ([(⟨w17.heap.size, 0, none⟩, .int .i64 1), (⟨w17.heap.size, 1, none⟩, .int .i64 6)] ++ ([(⟨w6.heap.size, 0, none⟩, .int .i64 2), (⟨w6.heap.size, 1, none⟩, .int .i64 3)] ++ ([(⟨w1.heap.size, 0, none⟩, .int .i64 10), (⟨w1.heap.size, 1, none⟩, .int .i64 1), (⟨w1.heap.size, 2, none⟩, .int .i64 5), (⟨w1.heap.size, 3, none⟩, .int .i64 1), (⟨w1.heap.size, 4, none⟩, .int .i64 10), (⟨w1.heap.size, 5, none⟩, .int .i64 1), (⟨w1.heap.size, 6, none⟩, .int .i64 10)] ++ [])))) := Lib.hid (by rw [hw]; exact held_more (held_step H17.out ((Below.refl _ _).alloc (Nat.le_refl _) _)) (cells_two _ _ _ _))
  have hg : Below w17.heap.size w17 w18 := by rw [hw]; exact (Below.refl _ _).alloc (Nat.le_refl _) _
  have R10 := Lib.hid (And.intro R9.out.1 (Kd.C_below R9.out.2 hg))
  clear R9
  clear hw hg
  refine (T10.out _).mono ?_
  rintro e w19 ⟨rfl, hb⟩
  have H19 := Lib.hid (held_step H18.out hb)
  clear H18
  have R11 := Lib.hid (And.intro R10.out.1 (Kd.C_below R10.out.2 hb))
  clear R10
  clear hb
  have f0 : w19.cell? ⟨w1.heap.size, 0, none⟩ = some (.int .i64 10) := H19.out.1 (⟨w1.heap.size, 0, none⟩, .int .i64 10) (by simp)
  have f1 : w19.cell? ⟨w1.heap.size, 1, none⟩ = some (.int .i64 1) := H19.out.1 (⟨w1.heap.size, 1, none⟩, .int .i64 1) (by simp)
  have f2 : w19.cell? ⟨w1.heap.size, 2, none⟩ = some (.int .i64 5) := H19.out.1 (⟨w1.heap.size, 2, none⟩, .int .i64 5) (by simp)
  have f3 : w19.cell? ⟨w1.heap.size, 3, none⟩ = some (.int .i64 1) := H19.out.1 (⟨w1.heap.size, 3, none⟩, .int .i64 1) (by simp)
  have f4 : w19.cell? ⟨w1.heap.size, 4, none⟩ = some (.int .i64 10) := H19.out.1 (⟨w1.heap.size, 4, none⟩, .int .i64 10) (by simp)
  have f5 : w19.cell? ⟨w1.heap.size, 5, none⟩ = some (.int .i64 1) := H19.out.1 (⟨w1.heap.size, 5, none⟩, .int .i64 1) (by simp)
  have f6 : w19.cell? ⟨w1.heap.size, 6, none⟩ = some (.int .i64 10) := H19.out.1 (⟨w1.heap.size, 6, none⟩, .int .i64 10) (by simp)
  go_wp2_with fail
  refine (T11.out _).mono ?_
  rintro e w20 ⟨rfl, hb⟩
  have H20 := Lib.hid (held_step H19.out hb)
  clear H19
  have R12 := Lib.hid (And.intro R11.out.1 (Kd.C_below R11.out.2 hb))
  clear R11
  clear hb f0 f1 f2 f3 f4 f5 f6
  go_wp2_with fail
  obtain ⟨w21, hw⟩ : ∃ w', w' = w20.alloc (.cells #[.int .i64 6, .int .i64 1] 48) := ⟨_, rfl⟩
  rw [← hw]
  have H21 : Hid (Held w w21 ([(⟨w20.heap.size, 0, none⟩, .int .i64 6), (⟨w20.heap.size, 1, none⟩, .int .i64 1)] ++ ([(⟨w17.heap.size, 0, none⟩, .int .i64 1), (⟨w17.heap.size, 1, none⟩, .int .i64 6)] ++ ([(⟨w6.heap.size, 0, none⟩, .int .i64 2), (⟨w6.heap.size, 1, none⟩, .int .i64 3)] ++ ([(⟨w1.heap.size, 0, none⟩, .int .i64 10), (⟨w1.heap.size, 1, none⟩, .int .i64 1), (⟨w1.heap.size, 2, none⟩, .int .i64 5), (⟨w1.heap.size, 3, none⟩, .int .i64 1), (⟨w1.heap.size, 4, none⟩, .int .i64 10), (⟨w1.heap.size, 5, none⟩, .int .i64 1), (⟨w1.heap.size, 6, none⟩, .int .i64 10)] ++ []))))) := Lib.hid (by rw [hw]; exact held_more (held_step H20.out ((Below.refl _ _).alloc (Nat.le_refl _) _)) (cells_two _ _ _ _))
  have hg : Below w20.heap.size w20 w21 := by rw [hw]; exact (Below.refl _ _).alloc (Nat.le_refl _) _
  have R13 := Lib.hid (And.intro R12.out.1 (Kd.C_below R12.out.2 hg))
  clear R12
  clear hw hg
  have f0 := kept_cell' (p := ⟨w1.heap.size, 0, none⟩) (H21.out.1 (⟨w1.heap.size, 0, none⟩, .int .i64 10) (by simp))
  have f1 := kept_cell' (p := ⟨w1.heap.size, 1, none⟩) (H21.out.1 (⟨w1.heap.size, 1, none⟩, .int .i64 1) (by simp))
  have f2 := kept_cell' (p := ⟨w1.heap.size, 2, none⟩) (H21.out.1 (⟨w1.heap.size, 2, none⟩, .int .i64 5) (by simp))
  have f3 := kept_cell' (p := ⟨w1.heap.size, 3, none⟩) (H21.out.1 (⟨w1.heap.size, 3, none⟩, .int .i64 1) (by simp))
  have f4 := kept_cell' (p := ⟨w1.heap.size, 4, none⟩) (H21.out.1 (⟨w1.heap.size, 4, none⟩, .int .i64 10) (by simp))
  have f5 := kept_cell' (p := ⟨w1.heap.size, 5, none⟩) (H21.out.1 (⟨w1.heap.size, 5, none⟩, .int .i64 1) (by simp))
  have f6 := kept_cell' (p := ⟨w1.heap.size, 6, none⟩) (H21.out.1 (⟨w1.heap.size, 6, none⟩, .int .i64 10) (by simp))
  refine wp_region_kept w21.heap.size w21 (by kernel_rfl) (by kernel_rfl) (Below.refl _ _) ?_
  repeat (go_big_quiet_step (first | with_reducible exact kept_calls _ (Nat.le_refl _) (TP.out 5 1 _) | with_reducible exact kept_calls _ (Nat.le_refl _) (T12.out _)))
  refine wpQuiet_nil ?_
  rintro _ ⟨X21, rfl⟩
  obtain ⟨w22, hX⟩ : ∃ w', w' = X21.1 := ⟨_, rfl⟩
  rw [← hX]
  have hb : Below w21.heap.size w21 w22 := by rw [hX]; exact X21.2
  have H22 := Lib.hid (held_step H21.out hb)
  have R14 := Lib.hid (And.intro R13.out.1 (Kd.C_below R13.out.2 hb))
  clear R13
  clear hb hX H21 f0 f1 f2 f3 f4 f5 f6
  have f0 := kept_cell' (p := ⟨w1.heap.size, 0, none⟩) (H22.out.1 (⟨w1.heap.size, 0, none⟩, .int .i64 10) (by simp))
  have f1 := kept_cell' (p := ⟨w1.heap.size, 1, none⟩) (H22.out.1 (⟨w1.heap.size, 1, none⟩, .int .i64 1) (by simp))
  have f2 := kept_cell' (p := ⟨w1.heap.size, 2, none⟩) (H22.out.1 (⟨w1.heap.size, 2, none⟩, .int .i64 5) (by simp))
  have f3 := kept_cell' (p := ⟨w1.heap.size, 3, none⟩) (H22.out.1 (⟨w1.heap.size, 3, none⟩, .int .i64 1) (by simp))
  have f4 := kept_cell' (p := ⟨w1.heap.size, 4, none⟩) (H22.out.1 (⟨w1.heap.size, 4, none⟩, .int .i64 10) (by simp))
  have f5 := kept_cell' (p := ⟨w1.heap.size, 5, none⟩) (H22.out.1 (⟨w1.heap.size, 5, none⟩, .int .i64 1) (by simp))
  have f6 := kept_cell' (p := ⟨w1.heap.size, 6, none⟩) (H22.out.1 (⟨w1.heap.size, 6, none⟩, .int .i64 10) (by simp))
  go_wp2_with fail
  refine wp_region_kept w22.heap.size w22 (by kernel_rfl) (by kernel_rfl) (Below.refl _ _) ?_
  repeat (go_big_quiet_step (first | with_reducible exact kept_calls _ (Nat.le_refl _) (TP.out 5 1 _) | with_reducible exact kept_calls _ (Nat.le_refl _) (T13.out _)))
  refine wpQuiet_nil ?_
  rintro _ ⟨X22, rfl⟩
  obtain ⟨w23, hX⟩ : ∃ w', w' = X22.1 := ⟨_, rfl⟩
  rw [← hX]
  have hb : Below w22.heap.size w22 w23 := by rw [hX]; exact X22.2
  have H23 := Lib.hid (held_step H22.out hb)
  have R15 := Lib.hid (And.intro R14.out.1 (Kd.C_below R14.out.2 hb))
  clear R14
  clear hb hX H22 f0 f1 f2 f3 f4 f5 f6
  go_wp2_with fail
  have a0 : w23.cell? ⟨w6.heap.size, 0, none⟩ = some (.int .i64 2) := H23.out.1 (⟨w6.heap.size, 0, none⟩, .int .i64 2) (by simp)
  have a1 : w23.cell? ⟨w6.heap.size, 1, none⟩ = some (.int .i64 3) := H23.out.1 (⟨w6.heap.size, 1, none⟩, .int .i64 3) (by simp)
  have b0 : w23.cell? ⟨w17.heap.size, 0, none⟩ = some (.int .i64 1) := H23.out.1 (⟨w17.heap.size, 0, none⟩, .int .i64 1) (by simp)
  have b1 : w23.cell? ⟨w17.heap.size, 1, none⟩ = some (.int .i64 6) := H23.out.1 (⟨w17.heap.size, 1, none⟩, .int .i64 6) (by simp)
  have c0 : w23.cell? ⟨w20.heap.size, 0, none⟩ = some (.int .i64 6) := H23.out.1 (⟨w20.heap.size, 0, none⟩, .int .i64 6) (by simp)
  have c1 : w23.cell? ⟨w20.heap.size, 1, none⟩ = some (.int .i64 1) := H23.out.1 (⟨w20.heap.size, 1, none⟩, .int .i64 1) (by simp)
  have hS : Below w23.heap.size w23 w23.drew := (Below.refl _ _).drew
  refine wp_region_held_list (k := 48) rfl (fun w' => Below w23.heap.size w23 w') (by kernel_rfl) ?_
  refine take_list (i := 0) (v := .int .i64 10) rfl (by kernel_rfl) (by kernel_rfl) (by kernel_rfl) (fun _ _ _ h => h) (by rfl) (fun _ _ => by kernel_rfl) hS ?_
  simp only [Act.put, List.setIfInBounds_toArray, List.set_cons_zero, List.set_cons_succ]
  refine take_list (i := 1) (v := .bool true) rfl (by kernel_rfl) (by kernel_rfl) (by kernel_rfl) (fun _ _ _ h => h) (by rfl) (fun _ _ => by kernel_rfl) hS ?_
  simp only [Act.put, List.setIfInBounds_toArray, List.set_cons_zero, List.set_cons_succ]
  refine take_list (i := 2) (v := .bool true) rfl (by kernel_rfl) (by kernel_rfl) (by kernel_rfl) (fun _ _ _ h => h) (by rfl) (fun _ _ => by kernel_rfl) hS ?_
  simp only [Act.put, List.setIfInBounds_toArray, List.set_cons_zero, List.set_cons_succ]
  refine take_list (i := 3) (v := .int .i64 105) rfl (by kernel_rfl) (by kernel_rfl) (by kernel_rfl) (fun _ _ _ h => h) (by rfl) (fun _ _ => by kernel_rfl) hS ?_
  simp only [Act.put, List.setIfInBounds_toArray, List.set_cons_zero, List.set_cons_succ]
  refine take_list (i := 4) (v := .bool true) rfl (by kernel_rfl) (by kernel_rfl) (by kernel_rfl) (fun _ _ _ h => h) (by rfl) (fun _ _ => by kernel_rfl) hS ?_
  simp only [Act.put, List.setIfInBounds_toArray, List.set_cons_zero, List.set_cons_succ]
  refine take_list (i := 5) (v := .bool true) rfl (by kernel_rfl) (by kernel_rfl) (by kernel_rfl) (fun _ _ _ h => h) (by rfl) (fun _ _ => by kernel_rfl) hS ?_
  simp only [Act.put, List.setIfInBounds_toArray, List.set_cons_zero, List.set_cons_succ]
  refine take_list (i := 6) (v := .bool true) rfl (by kernel_rfl) (by kernel_rfl) (by kernel_rfl) (fun _ _ _ h => h) (by rfl) (fun _ _ => by kernel_rfl) hS ?_
  simp only [Act.put, List.setIfInBounds_toArray, List.set_cons_zero, List.set_cons_succ]
  refine take_list (i := 7) (v := .int .i64 140) rfl (by kernel_rfl) (by kernel_rfl) (by kernel_rfl) (fun _ _ _ h => h) (by rfl) (fun _ _ => by kernel_rfl) hS ?_
  simp only [Act.put, List.setIfInBounds_toArray, List.set_cons_zero, List.set_cons_succ]
  refine take_list (i := 8) (v := .bool true) rfl (by kernel_rfl) (by kernel_rfl) (by kernel_rfl) (fun _ _ _ h => h) (by rfl) (fun _ _ => by kernel_rfl) hS ?_
  simp only [Act.put, List.setIfInBounds_toArray, List.set_cons_zero, List.set_cons_succ]
  refine take_list (i := 9) (v := .bool true) rfl (by kernel_rfl) (by kernel_rfl) (by kernel_rfl) (fun _ _ _ h => h) (by rfl) (fun _ _ => by kernel_rfl) hS ?_
  simp only [Act.put, List.setIfInBounds_toArray, List.set_cons_zero, List.set_cons_succ]
  refine take_list (i := 10) (v := .bool true) rfl (by kernel_rfl) (by kernel_rfl) (by kernel_rfl) (fun _ _ _ h => h) (by rfl) (fun _ _ => by kernel_rfl) hS ?_
  simp only [Act.put, List.setIfInBounds_toArray, List.set_cons_zero, List.set_cons_succ]
  refine take_list (i := 11) (v := .agg #[.int .i64 2, .int .i64 3]) rfl (by kernel_rfl) (by kernel_rfl) (by kernel_rfl) (fun _ _ _ h => h) (by rfl) (by intro w' hw'; have q0 := held_now hw' a0; have q1 := held_now hw' a1; go_simp) hS ?_
  simp only [Act.put, List.setIfInBounds_toArray, List.set_cons_zero, List.set_cons_succ]
  refine step_list (i := 12) (by kernel_rfl) rfl (by rfl) (fun K hK => ?_)
  go_simp
  refine (TF.out 2 3 _).mono ?_
  rintro e wq1 ⟨rfl, hb⟩
  have hS2 := hS.trans (hb.mono hS.size)
  refine hK _ _ hS2 ?_
  clear hK K hS
  have hS := hS2
  clear hS2
  clear hb
  refine take_list (i := 13) (v := .bool true) rfl (by kernel_rfl) (by kernel_rfl) (by kernel_rfl) (fun _ _ _ h => h) (by rfl) (fun _ _ => by kernel_rfl) hS ?_
  simp only [Act.put, List.setIfInBounds_toArray, List.set_cons_zero, List.set_cons_succ]
  refine take_list (i := 14) (v := .bool true) rfl (by kernel_rfl) (by kernel_rfl) (by kernel_rfl) (fun _ _ _ h => h) (by rfl) (fun _ _ => by kernel_rfl) hS ?_
  simp only [Act.put, List.setIfInBounds_toArray, List.set_cons_zero, List.set_cons_succ]
  refine take_list (i := 15) (v := .bool true) rfl (by kernel_rfl) (by kernel_rfl) (by kernel_rfl) (fun _ _ _ h => h) (by rfl) (fun _ _ => by kernel_rfl) hS ?_
  simp only [Act.put, List.setIfInBounds_toArray, List.set_cons_zero, List.set_cons_succ]
  refine take_list (i := 16) (v := .slice A 3 c) rfl (by kernel_rfl) (by kernel_rfl) (by kernel_rfl) (fun _ _ _ h => h) (by rfl) (fun _ _ => by kernel_rfl) hS ?_
  simp only [Act.put, List.setIfInBounds_toArray, List.set_cons_zero, List.set_cons_succ]
  refine step_list (i := 17) (by kernel_rfl) rfl (by rfl) (fun K hK => ?_)
  go_simp
  have hS2 := hS.trans (((Below.refl _ _).alloc (Nat.le_refl _) _).mono hS.size : Below w23.heap.size wq1 (wq1.alloc (.cells #[.int .i64 0, .int .i64 2, .int .i64 4] 3)))
  refine hK _ _ hS2 ?_
  clear hK K hS
  have hS := hS2
  clear hS2
  have hrd := reads3 wq1 0 2 4
  have HRD := Lib.hid hrd
  clear hrd
  refine step_list (i := 18) (by kernel_rfl) rfl (by rfl) (fun K hK => ?_)
  go_simp
  refine (TO.out _ _).mono ?_
  rintro e wq2 ⟨rfl, hb⟩
  have hS2 := hS.trans (hb.mono hS.size)
  refine hK _ _ hS2 ?_
  clear hK K hS
  have hS := hS2
  clear hS2
  have hrd := Kd.C_below HRD.out hb
  have HRE := Lib.hid hrd
  clear hrd hb HRD
  have HRF := Lib.hid (Kd.C_below R15.out.2 hS)
  refine step_list (i := 19) (by kernel_rfl) rfl (by rfl) (fun K hK => ?_)
  go_simp
  refine (peaveylaw10_Ints.calls 5 A c [0, 2, 4] _ 3 [0, 2, 4] true _ HRF.out R15.out.1 HRE.out (by decide) valI).mono ?_
  rintro e wq3 ⟨rfl, hd⟩
  obtain ⟨nd, rfl⟩ := hd
  have hS2 : Below w23.heap.size w23 (wq2.drewN nd) := below_drewN hS nd
  refine hK _ _ hS2 ?_
  clear hK K hS
  have hS := hS2
  clear hS2
  refine take_list (i := 20) (v := .bool true) rfl (by kernel_rfl) (by kernel_rfl) (by kernel_rfl) (fun _ _ _ h => h) (by rfl) (fun _ _ => by kernel_rfl) hS ?_
  simp only [Act.put, List.setIfInBounds_toArray, List.set_cons_zero, List.set_cons_succ]
  refine take_list (i := 21) (v := .bool true) rfl (by kernel_rfl) (by kernel_rfl) (by kernel_rfl) (fun _ _ _ h => h) (by rfl) (fun _ _ => by kernel_rfl) hS ?_
  simp only [Act.put, List.setIfInBounds_toArray, List.set_cons_zero, List.set_cons_succ]
  refine take_list (i := 22) (v := .int .i64 4) rfl (by kernel_rfl) (by kernel_rfl) (by kernel_rfl) (fun _ _ _ h => h) (by rfl) (fun _ _ => by kernel_rfl) hS ?_
  simp only [Act.put, List.setIfInBounds_toArray, List.set_cons_zero, List.set_cons_succ]
  refine take_list (i := 23) (v := .bool true) rfl (by kernel_rfl) (by kernel_rfl) (by kernel_rfl) (fun _ _ _ h => h) (by rfl) (fun _ _ => by kernel_rfl) hS ?_
  simp only [Act.put, List.setIfInBounds_toArray, List.set_cons_zero, List.set_cons_succ]
  refine take_list (i := 24) (v := .bool true) rfl (by kernel_rfl) (by kernel_rfl) (by kernel_rfl) (fun _ _ _ h => h) (by rfl) (fun _ _ => by kernel_rfl) hS ?_
  simp only [Act.put, List.setIfInBounds_toArray, List.set_cons_zero, List.set_cons_succ]
  refine take_list (i := 25) (v := .bool true) rfl (by kernel_rfl) (by kernel_rfl) (by kernel_rfl) (fun _ _ _ h => h) (by rfl) (fun _ _ => by kernel_rfl) hS ?_
  simp only [Act.put, List.setIfInBounds_toArray, List.set_cons_zero, List.set_cons_succ]
  refine take_list (i := 26) (v := .agg #[.int .i64 1, .int .i64 6]) rfl (by kernel_rfl) (by kernel_rfl) (by kernel_rfl) (fun _ _ _ h => h) (by rfl) (by intro w' hw'; have q0 := held_now hw' b0; have q1 := held_now hw' b1; go_simp) hS ?_
  simp only [Act.put, List.setIfInBounds_toArray, List.set_cons_zero, List.set_cons_succ]
  refine step_list (i := 27) (by kernel_rfl) rfl (by rfl) (fun K hK => ?_)
  go_simp
  refine (TR.out 1 6 _).mono ?_
  rintro e wq4 ⟨rfl, hb⟩
  have hS2 := hS.trans (hb.mono hS.size)
  refine hK _ _ hS2 ?_
  clear hK K hS
  have hS := hS2
  clear hS2
  clear hb
  refine take_list (i := 28) (v := .bool true) rfl (by kernel_rfl) (by kernel_rfl) (by kernel_rfl) (fun _ _ _ h => h) (by rfl) (fun _ _ => by kernel_rfl) hS ?_
  simp only [Act.put, List.setIfInBounds_toArray, List.set_cons_zero, List.set_cons_succ]
  refine take_list (i := 29) (v := .bool true) rfl (by kernel_rfl) (by kernel_rfl) (by kernel_rfl) (fun _ _ _ h => h) (by rfl) (fun _ _ => by kernel_rfl) hS ?_
  simp only [Act.put, List.setIfInBounds_toArray, List.set_cons_zero, List.set_cons_succ]
  refine take_list (i := 30) (v := .bool true) rfl (by kernel_rfl) (by kernel_rfl) (by kernel_rfl) (fun _ _ _ h => h) (by rfl) (fun _ _ => by kernel_rfl) hS ?_
  simp only [Act.put, List.setIfInBounds_toArray, List.set_cons_zero, List.set_cons_succ]
  refine take_list (i := 31) (v := .int .i64 2) rfl (by kernel_rfl) (by kernel_rfl) (by kernel_rfl) (fun _ _ _ h => h) (by rfl) (fun _ _ => by kernel_rfl) hS ?_
  simp only [Act.put, List.setIfInBounds_toArray, List.set_cons_zero, List.set_cons_succ]
  refine take_list (i := 32) (v := .bool true) rfl (by kernel_rfl) (by kernel_rfl) (by kernel_rfl) (fun _ _ _ h => h) (by rfl) (fun _ _ => by kernel_rfl) hS ?_
  simp only [Act.put, List.setIfInBounds_toArray, List.set_cons_zero, List.set_cons_succ]
  refine take_list (i := 33) (v := .bool true) rfl (by kernel_rfl) (by kernel_rfl) (by kernel_rfl) (fun _ _ _ h => h) (by rfl) (fun _ _ => by kernel_rfl) hS ?_
  simp only [Act.put, List.setIfInBounds_toArray, List.set_cons_zero, List.set_cons_succ]
  refine take_list (i := 34) (v := .bool true) rfl (by kernel_rfl) (by kernel_rfl) (by kernel_rfl) (fun _ _ _ h => h) (by rfl) (fun _ _ => by kernel_rfl) hS ?_
  simp only [Act.put, List.setIfInBounds_toArray, List.set_cons_zero, List.set_cons_succ]
  refine take_list (i := 35) (v := .agg #[.int .i64 6, .int .i64 1]) rfl (by kernel_rfl) (by kernel_rfl) (by kernel_rfl) (fun _ _ _ h => h) (by rfl) (by intro w' hw'; have q0 := held_now hw' c0; have q1 := held_now hw' c1; go_simp) hS ?_
  simp only [Act.put, List.setIfInBounds_toArray, List.set_cons_zero, List.set_cons_succ]
  refine step_list (i := 36) (by kernel_rfl) rfl (by rfl) (fun K hK => ?_)
  go_simp
  refine (TP.out 6 1 _).mono ?_
  rintro e wq5 ⟨rfl, hb⟩
  have hS2 := hS.trans (hb.mono hS.size)
  refine hK _ _ hS2 ?_
  clear hK K hS
  have hS := hS2
  clear hS2
  clear hb
  refine take_list (i := 37) (v := .bool true) rfl (by kernel_rfl) (by kernel_rfl) (by kernel_rfl) (fun _ _ _ h => h) (by rfl) (fun _ _ => by kernel_rfl) hS ?_
  simp only [Act.put, List.setIfInBounds_toArray, List.set_cons_zero, List.set_cons_succ]
  refine take_list (i := 38) (v := .bool true) rfl (by kernel_rfl) (by kernel_rfl) (by kernel_rfl) (fun _ _ _ h => h) (by rfl) (fun _ _ => by kernel_rfl) hS ?_
  simp only [Act.put, List.setIfInBounds_toArray, List.set_cons_zero, List.set_cons_succ]
  refine take_list (i := 39) (v := .bool true) rfl (by kernel_rfl) (by kernel_rfl) (by kernel_rfl) (fun _ _ _ h => h) (by rfl) (fun _ _ => by kernel_rfl) hS ?_
  simp only [Act.put, List.setIfInBounds_toArray, List.set_cons_zero, List.set_cons_succ]
  refine take_list (i := 40) (v := .int .i64 0) rfl (by kernel_rfl) (by kernel_rfl) (by kernel_rfl) (fun _ _ _ h => h) (by rfl) (fun _ _ => by kernel_rfl) hS ?_
  simp only [Act.put, List.setIfInBounds_toArray, List.set_cons_zero, List.set_cons_succ]
  refine take_list (i := 41) (v := .bool true) rfl (by kernel_rfl) (by kernel_rfl) (by kernel_rfl) (fun _ _ _ h => h) (by rfl) (fun _ _ => by kernel_rfl) hS ?_
  simp only [Act.put, List.setIfInBounds_toArray, List.set_cons_zero, List.set_cons_succ]
  refine take_list (i := 42) (v := .bool true) rfl (by kernel_rfl) (by kernel_rfl) (by kernel_rfl) (fun _ _ _ h => h) (by rfl) (fun _ _ => by kernel_rfl) hS ?_
  simp only [Act.put, List.setIfInBounds_toArray, List.set_cons_zero, List.set_cons_succ]
  refine take_list (i := 43) (v := .bool true) rfl (by kernel_rfl) (by kernel_rfl) (by kernel_rfl) (fun _ _ _ h => h) (by rfl) (fun _ _ => by kernel_rfl) hS ?_
  simp only [Act.put, List.setIfInBounds_toArray, List.set_cons_zero, List.set_cons_succ]
  refine take_list (i := 44) (v := .int .i64 26) rfl (by kernel_rfl) (by kernel_rfl) (by kernel_rfl) (fun _ _ _ h => h) (by rfl) (fun _ _ => by kernel_rfl) hS ?_
  simp only [Act.put, List.setIfInBounds_toArray, List.set_cons_zero, List.set_cons_succ]
  refine take_list (i := 45) (v := .bool true) rfl (by kernel_rfl) (by kernel_rfl) (by kernel_rfl) (fun _ _ _ h => h) (by rfl) (fun _ _ => by kernel_rfl) hS ?_
  simp only [Act.put, List.setIfInBounds_toArray, List.set_cons_zero, List.set_cons_succ]
  refine take_list (i := 46) (v := .bool true) rfl (by kernel_rfl) (by kernel_rfl) (by kernel_rfl) (fun _ _ _ h => h) (by rfl) (fun _ _ => by kernel_rfl) hS ?_
  simp only [Act.put, List.setIfInBounds_toArray, List.set_cons_zero, List.set_cons_succ]
  refine take_list (i := 47) (v := .bool true) rfl (by kernel_rfl) (by kernel_rfl) (by kernel_rfl) (fun _ _ _ h => h) (by rfl) (fun _ _ => by kernel_rfl) hS ?_
  simp only [Act.put, List.setIfInBounds_toArray, List.set_cons_zero, List.set_cons_succ]
  refine wpAnyH_done (by kernel_rfl) ?_ _
  have HS := Lib.hid hS
  clear hS a0 a1 b0 b1 c0 c1
  go_wp2
  go_ret
  exact ⟨rfl, H23.out.2.trans (HS.out.mono H23.out.2.size)⟩
theorem peaveylaw10_Works.calls (r : Bool) (w : World) (h : peaveylaw10_Works.f = some r) : Calls Try.prog 25 #[] w fun e w' => e = .returned (.bool r) ∧ Below w.heap.size w w' := by
  obtain rfl := Option.some.inj h
  exact works_any w
end Go.Proofs.Ytmgdidhhgdpobaa.Hand
