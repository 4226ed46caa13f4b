/- Plan comes to the first right plan of all. -/
import Derived.Test.YtmgdidhhgdpobaaHPick
import Derived.Test.YtmgdidhhgdpobaaHDraw
namespace Go.Proofs.Ytmgdidhhgdpobaa.Hand
open Go.RowKit Go.Maps Go.Proofs.YtmgdidhhgdpobaaW.PrintWords Go.Proofs.YtmgdidhhgdpobaaW.PrintLast Go.Proofs.YtmgdidhhgdpobaaW.PrintMore Go.Proofs.Ytmgdidhhgdpobaa.PrA

/-- the plans of one size, the first ones -/
def plansOf (s : Nat) (m : Nat) : List (Int × Int) := (List.range m).map fun (k : Nat) => ((s : Int), (k : Int))
/-- the plans of the sizes below one -/
def plansTo : Nat → List (Int × Int)
  | 0 => []
  | s + 1 => plansTo s ++ plansOf s (s + 1)
def planCells (l : List (Int × Int)) : List Value := l.flatMap fun x => [.int .i64 x.1, .int .i64 x.2]

theorem plansOf_length (s m : Nat) : (plansOf s m).length = m := by simp [plansOf]
theorem plansTo_length : ∀ s, (plansTo s).length ≤ s * 51 ∨ 50 < s
  | 0 => .inl (by simp [plansTo])
  | s + 1 => by
    rcases plansTo_length s with h | h
    · by_cases h50 : 50 < s + 1
      · exact .inr h50
      · left; simp only [plansTo, List.length_append, plansOf_length]; omega
    · right; omega
theorem planCells_length (l : List (Int × Int)) : (planCells l).length = l.length * 2 := by
  induction l with
  | nil => rfl
  | cons x l ih => simp only [planCells, List.flatMap_cons, List.length_append, List.length_cons, List.length_nil] at ih ⊢; omega
theorem planCells_get : ∀ (l : List (Int × Int)) (j : Nat) (x : Int × Int), l[j]? = some x → (planCells l)[j * 2]? = some (.int .i64 x.1) ∧ (planCells l)[j * 2 + 1]? = some (.int .i64 x.2)
  | [], j, x, h => by simp at h
  | y :: l, 0, x, h => by
    simp only [List.getElem?_cons_zero, Option.some.injEq] at h
    subst h
    simp [planCells]
  | y :: l, j + 1, x, h => by
    simp only [List.getElem?_cons_succ] at h
    have := planCells_get l j x h
    simp only [planCells, List.flatMap_cons, List.cons_append, List.nil_append] at this ⊢
    rw [show (j + 1) * 2 = j * 2 + 1 + 1 by omega]
    simp only [List.getElem?_cons_succ]
    exact this
theorem planCells_snoc (l : List (Int × Int)) (x : Int × Int) : planCells (l ++ [x]) = planCells l ++ [.int .i64 x.1, .int .i64 x.2] := by simp [planCells]
theorem plansOf_succ (s m : Nat) : plansOf s (m + 1) = plansOf s m ++ [((s : Int), (m : Int))] := by simp [plansOf, List.range_succ]
theorem mem_plansTo {x : Int × Int} : ∀ {s : Nat}, x ∈ plansTo s → ∃ a b : Nat, x = ((a : Int), (b : Int)) ∧ a < s ∧ b ≤ a
  | 0, h => by simp [plansTo] at h
  | s + 1, h => by
    rw [plansTo, List.mem_append] at h
    rcases h with h | h
    · obtain ⟨a, b, e, h1, h2⟩ := mem_plansTo h
      exact ⟨a, b, e, by omega, h2⟩
    · simp only [plansOf, List.mem_map, List.mem_range] at h
      obtain ⟨m, hm, rfl⟩ := h
      exact ⟨s, m, rfl, by omega, by omega⟩
theorem own_planCells {w : World} {base : Nat} {v : Value} {l : List (Int × Int)} (h : w.ownsRow base 48 2 v l.length (planCells l)) (hl : l ≠ []) :
    ∃ g cap, v = .slice (some ⟨g, 0, none⟩) l.length cap ∧ l.length ≤ cap ∧ ∀ j (x : Int × Int), l[j]? = some x → w.cell? ⟨g, j * 2, none⟩ = some (.int .i64 x.1) ∧ w.cell? ⟨g, j * 2 + 1, none⟩ = some (.int .i64 x.2) := by
  have hpos : 0 < l.length := List.length_pos_iff.2 hl
  rcases h.2 with ⟨_, h0⟩ | ⟨g, cap, cur, hv, _, hh, hc, _, hcs, htk⟩
  · omega
  · refine ⟨g, cap, hv, hc, fun j x hx => ?_⟩
    have hj : j < l.length := (List.getElem?_eq_some_iff.1 hx).1
    obtain ⟨e0, e1⟩ := planCells_get l j x hx
    rw [← htk, List.getElem?_take_of_lt (by omega)] at e0 e1
    have key : ∀ i u, cur.toList[i]? = some u → w.cell? ⟨g, i, none⟩ = some u := fun i u hi => by
      rw [Array.getElem?_toList] at hi
      simp [World.cell?, hh, hi]
    exact ⟨key _ _ e0, key _ _ e1⟩
theorem infoPlan : (Try.prog.info? 48).map (fun i => (i.zero, i.size, i.bytes)) = some (some (.agg #[.int .i64 0, .int .i64 0]), 2, 16) := by kernel_rfl

/-- the first right plan -/
def planN (a0 a1 a2 a3 a4 a5 a6 : Int) : Int × Int := pickN (fun x => rightB a0 a1 a2 a3 a4 a5 a6 x.1 x.2) (plansTo (a0.toNat + 1))
def check_Plan.f (a0 a1 a2 a3 a4 a5 a6 : Int) : Option (Int × Int × Int) :=
  some (if testN a0 a1 a2 a3 a4 a5 a6 = 0 then ((planN a0 a1 a2 a3 a4 a5 a6).1, (planN a0 a1 a2 a3 a4 a5 a6).2, 0) else (0, 0, testN a0 a1 a2 a3 a4 a5 a6))

theorem open_zeroPlan {a0 a1 a2 a3 a4 a5 a6 : Int} : openN a0 a1 a2 a3 a4 a5 a6 0 0 = testN a0 a1 a2 a3 a4 a5 a6 := by
  unfold openN
  by_cases h : testN a0 a1 a2 a3 a4 a5 a6 = 0
  · rw [if_pos h, h]
    have := test_in h
    have h1 : planOk a0 0 0 = true := by simp [planOk, outB]; omega
    rw [h1]; rfl
  · rw [if_neg h]

set_option maxHeartbeats 4000000 in
set_option maxRecDepth 100000 in
theorem plan_good (a0 a1 a2 a3 a4 a5 a6 : Int) (w : World) (ht : testN a0 a1 a2 a3 a4 a5 a6 = 0) :
    Calls Try.prog 41 #[.agg #[.int .i64 a0, .int .i64 a1, .int .i64 a2, .int .i64 a3, .int .i64 a4, .int .i64 a5, .int .i64 a6]] w
      fun e w' => e = .returned (.tuple #[.agg #[.int .i64 (planN a0 a1 a2 a3 a4 a5 a6).1, .int .i64 (planN a0 a1 a2 a3 a4 a5 a6).2], .int .i64 0]) ∧ Below w.heap.size w w' := by
  have hu46 := Try.underlying46
  have hu48 := Try.underlying48
  have hu27 := Try.underlying27
  have ho := (@open_zeroPlan a0 a1 a2 a3 a4 a5 a6).trans ht
  have HT := Lib.hid (test_in ht)
  obtain ⟨n, hn⟩ : ∃ n : Nat, a0 = (n : Int) := ⟨a0.toNat, by have := HT.out; omega⟩
  subst hn
  obtain ⟨W, hW⟩ : ∃ W, W = (w.alloc (.cells #[.int .i64 (n : Int), .int .i64 a1, .int .i64 a2, .int .i64 a3, .int .i64 a4, .int .i64 a5, .int .i64 a6] 46)).alloc (.cells #[.int .i64 0, .int .i64 0] 48) := ⟨_, rfl⟩
  have hbl : Below w.heap.size w W := by rw [hW]; exact ((Below.refl w.heap.size w).alloc (Nat.le_refl _) _).alloc (by simp) _
  have HBL := Lib.hid hbl
  have HC := Lib.hid (open_ok (n : Int) a1 a2 a3 a4 a5 a6 0 0 W ho)
  have d0 : W.cell? ⟨w.heap.size, 0, none⟩ = some (.int .i64 (n : Int)) := by rw [hW]; simp [go_sem]
  have d1 : W.cell? ⟨w.heap.size + 1, 0, none⟩ = some (.int .i64 0) := by rw [hW]; simp
  have d2 : W.cell? ⟨w.heap.size + 1, 1, none⟩ = some (.int .i64 0) := by rw [hW]; simp
  have d3 : W.frozen? ⟨w.heap.size + 1, 0, none⟩ = false := by rw [hW]; simp
  have d4 : W.frozen? ⟨w.heap.size + 1, 1, none⟩ = false := by rw [hW]; simp
  have dsz : w.heap.size + 2 ≤ W.heap.size := by rw [hW]; simp
  have HD := Lib.hid (And.intro d0 (And.intro d1 (And.intro d2 (And.intro d3 (And.intro d4 dsz)))))
  have hn50 : n ≤ 50 := by have := HT.out; omega
  clear hbl d0 d1 d2 d3 d4 dsz ho ht
  go_enter Try.func41, Try.ntmps41
  go_wp2_with fail
  rw [← hW]
  clear hW
  refine HC.out.mono ?_
  rintro e w1 ⟨b, rfl, hB, hw1⟩
  have e0 : w1.cell? ⟨w.heap.size, 0, none⟩ = some (.int .i64 (n : Int)) := by rw [hw1.cell (cell_size HD.out.1)]; exact HD.out.1
  have HB := Lib.hid hB
  have HW1 := Lib.hid hw1
  clear hw1 hB HC
  go_wp2
  obtain ⟨i0, hi, hz0, hz1, hz2⟩ := info_parts infoPlan
  go_loopw [6, 23] (fun v i wr => ∃ k : Nat, k ≤ n + 1 ∧ i = .int .i64 k ∧ Hid (wr.ownsRow w1.heap.size 48 2 v (plansTo k).length (planCells (plansTo k)) ∧ Below w1.heap.size w1 wr)) (fun _ i _ => 60 - (intOf i).toNat)
  case atStart => exact ⟨0, Nat.zero_le _, rfl, Lib.hid ⟨⟨rfl, .inl ⟨rfl, rfl⟩⟩, Below.refl _ _⟩⟩
  case round =>
    obtain ⟨k, hk, rfl, HI⟩ := hrel
    by_cases hlt : k < n + 1
    · have hlti : (k : Int) < (n : Int) + 1 := by omega
      obtain ⟨wo, rfl⟩ : ∃ wo : World, wo = wr := ⟨_, rfl⟩
      go_wp2
      go_loopw [6, 28] (fun v i wr => ∃ j : Nat, j ≤ k + 1 ∧ i = .int .i64 j ∧ Hid (wr.ownsRow w1.heap.size 48 2 v (plansTo k ++ plansOf k j).length (planCells (plansTo k ++ plansOf k j)) ∧ Below w1.heap.size w1 wr)) (fun _ i _ => 60 - (intOf i).toNat)
      case atStart => exact ⟨0, Nat.zero_le _, rfl, by rw [show plansOf k 0 = [] from rfl, List.append_nil]; exact HI⟩
      case round =>
        obtain ⟨j, hj, rfl, HJ⟩ := hrel
        by_cases hlj : j < k + 1
        · have hlji : (j : Int) < (k : Int) + 1 := by omega
          have hlen : (plansTo k ++ plansOf k j).length ≤ 3000 := by
            have := plansTo_length k
            rw [List.length_append, plansOf_length]; omega
          go_wp2_with (first | (at_builtin; refine print_append_cells (w0 := w1) w1.heap.size rfl (.tmp 31) (.tmp 35) 101 48 (.agg #[.int .i64 0, .int .i64 0]) 2 16 rfl Try.underlying101 infoPlan rfl (by decide) (by decide) u6 (plansTo k ++ plansOf k j).length (planCells (plansTo k ++ plansOf k j)) [.int .i64 (k : Int), .int .i64 (j : Int)] rfl rfl rfl (by simp [Value.oneCell']) HJ.out.1 HJ.out.2 HJ.out.2.size (by omega) ?_; intro v5 w5 hown5 hb5 hg5 _; have H5 := Lib.hid (And.intro hown5 hb5); clear hown5 hb5 hg5))
          go_roundw
          case rel => exact ⟨j + 1, by omega, by go_num, Lib.hid ⟨by
            have := H5.out.1
            rw [plansOf_succ, ← List.append_assoc, planCells_snoc, List.length_append]
            exact this, H5.out.2⟩⟩
          case measure => simp [intOf]; omega
        · obtain rfl : j = k + 1 := by omega
          go_wp2
          go_roundw
          case rel => exact ⟨k + 1, by omega, by go_num, HJ⟩
          case measure => simp [intOf]; omega
    · obtain rfl : k = n + 1 := by omega
      have hne : plansTo (n + 1) ≠ [] := by simp [plansTo, plansOf, List.range_succ]
      obtain ⟨g, cap, rfl, hcap, hcells⟩ := own_planCells HI.out.1 hne
      have hbench := bench_below HB.out HI.out.2 (cell_size HB.out.1)
      have hlen : (plansTo (n + 1)).length ≤ 5000 := by
        have h1 := plansTo_length (n + 1)
        have h2 := plansTo_length n
        have : (plansTo (n + 1)).length = (plansTo n).length + (n + 1) := by rw [plansTo, List.length_append, plansOf_length]
        omega
      have HF := Lib.hid (first_any b g cap n a1 a2 a3 a4 a5 a6 (plansTo (n + 1)) wr hbench (by omega) (by have := HT.out; omega) (by have := HT.out; omega) (by have := HT.out; omega) (by have := HT.out; omega) hne hlen hcap (fun x hx => by
        obtain ⟨c, d, rfl, h1, h2⟩ := mem_plansTo hx
        simp [planOk, outB]; omega) hcells)
      clear hbench hcells
      go_wp2_with fail
      refine HF.out.mono ?_
      rintro e w2 ⟨rfl, hw2⟩
      have hall := HBL.out.trans ((HW1.out.mono HBL.out.size).trans ((HI.out.2.mono (Nat.le_trans HBL.out.size HW1.out.size)).trans (hw2.mono (Nat.le_trans HBL.out.size (Nat.le_trans HW1.out.size HI.out.2.size)))))
      have hup : Below W.heap.size W w2 := HW1.out.trans ((HI.out.2.mono HW1.out.size).trans (hw2.mono (Nat.le_trans HW1.out.size HI.out.2.size)))
      obtain ⟨-, d1, d2, d3, d4, dsz⟩ := HD.out
      have c1 : w2.cell? ⟨w.heap.size + 1, 0, none⟩ = some (.int .i64 0) := by rw [hup.cell (cell_size d1)]; exact d1
      have c2 : w2.cell? ⟨w.heap.size + 1, 1, none⟩ = some (.int .i64 0) := by rw [hup.cell (cell_size d2)]; exact d2
      have f1 : w2.frozen? ⟨w.heap.size + 1, 0, none⟩ = false := by rw [hup.frozen (cell_size d1)]; exact d3
      have f2 : w2.frozen? ⟨w.heap.size + 1, 1, none⟩ = false := by rw [hup.frozen (cell_size d2)]; exact d4
      have HALL := Lib.hid hall
      have HPN : Hid (planN n a1 a2 a3 a4 a5 a6 = pickN (fun x => rightB n a1 a2 a3 a4 a5 a6 x.1 x.2) (plansTo (n + 1))) := Lib.hid (by unfold planN; rw [Int.toNat_natCast])
      clear hall hup hw2 d1 d2 d3 d4 dsz
      obtain ⟨q, hq⟩ : ∃ q, q = pickN (fun x => rightB n a1 a2 a3 a4 a5 a6 x.1 x.2) (plansTo (n + 1)) := ⟨_, rfl⟩
      rw [← hq] at HPN ⊢
      clear hq HF
      go_wp2
      refine bodyPost_ret (v := .tuple #[.agg #[.int .i64 q.1, .int .i64 q.2], .int .i64 0]) (by simp [results, Try.results41, go_sem, c1, c2]) rfl ⟨by rw [HPN.out], ?_⟩
      exact (HALL.out.setCell (by simp) _).setCell (by simp) _

set_option maxHeartbeats 4000000 in
theorem check_Plan.calls (a0_0 a0_1 a0_2 a0_3 a0_4 a0_5 a0_6 r1_0 r1_1 r2 : Int) (w : World) (h : check_Plan.f a0_0 a0_1 a0_2 a0_3 a0_4 a0_5 a0_6 = some (r1_0, r1_1, r2)) :
    Calls Try.prog 41 #[.agg #[.int .i64 a0_0, .int .i64 a0_1, .int .i64 a0_2, .int .i64 a0_3, .int .i64 a0_4, .int .i64 a0_5, .int .i64 a0_6]] w
      fun e w' => e = .returned (.tuple #[.agg #[.int .i64 r1_0, .int .i64 r1_1], .int .i64 r2]) ∧ Below w.heap.size w w' := by
  replace h := Option.some.inj h
  by_cases ht : testN a0_0 a0_1 a0_2 a0_3 a0_4 a0_5 a0_6 = 0
  · rw [if_pos ht] at h
    simp only [Prod.mk.injEq] at h
    obtain ⟨rfl, rfl, rfl⟩ := h
    exact plan_good a0_0 a0_1 a0_2 a0_3 a0_4 a0_5 a0_6 w ht
  · rw [if_neg ht] at h
    simp only [Prod.mk.injEq] at h
    obtain ⟨rfl, rfl, rfl⟩ := h
    have hu46 := Try.underlying46
    have hu48 := Try.underlying48
    have hu27 := Try.underlying27
    have HO := fun W => open_test a0_0 a0_1 a0_2 a0_3 a0_4 a0_5 a0_6 0 0 W ht
    obtain ⟨t, htt⟩ : ∃ t, t = testN a0_0 a0_1 a0_2 a0_3 a0_4 a0_5 a0_6 := ⟨_, rfl⟩
    rw [← htt] at ht HO ⊢
    have hb1 : (t != 0) = true := bne_iff_ne.2 ht
    have HO := Lib.hid HO
    clear htt ht
    go_enter Try.func41, Try.ntmps41
    go_wp2_with fail
    refine (HO.out _).mono ?_
    rintro e w1 ⟨rfl, hw1⟩
    have c1 : w1.cell? ⟨w.heap.size + 1, 0, none⟩ = some (.int .i64 0) := by rw [hw1.cell (by simp)]; simp
    have c2 : w1.cell? ⟨w.heap.size + 1, 1, none⟩ = some (.int .i64 0) := by rw [hw1.cell (by simp)]; simp
    have f1 : w1.frozen? ⟨w.heap.size + 1, 0, none⟩ = false := by rw [hw1.frozen (by simp)]; simp
    have f2 : w1.frozen? ⟨w.heap.size + 1, 1, none⟩ = false := by rw [hw1.frozen (by simp)]; simp
    have HW1 := Lib.hid hw1
    clear hw1
    go_wp2
    refine bodyPost_ret (v := .tuple #[.agg #[.int .i64 0, .int .i64 0], .int .i64 t]) (by simp [results, Try.results41, go_sem, c1, c2]) rfl ⟨rfl, ?_⟩
    exact ((((((Below.refl _ _).alloc (Nat.le_refl _) _).alloc (by simp) _).trans (HW1.out.mono (by simp; omega))).setCell (by simp) _).setCell (by simp) _)
end Go.Proofs.Ytmgdidhhgdpobaa.Hand
