/- Between comes to a fold over all numbers of wrong logs. -/
import Derived.Test.YtmgdidhhgdpobaaHCounts
import Derived.Test.YtmgdidhhgdpobaaHTest
import Derived.Deep.DeepCutAuto
namespace Go.Proofs.Ytmgdidhhgdpobaa.Hand
open Go.RowKit Go.Shelf Go.Maps Go.Proofs.YtmgdidhhgdpobaaW.PrintWords Go.Proofs.YtmgdidhhgdpobaaW.PrintLast Go.Proofs.YtmgdidhhgdpobaaW.PrintMore Go.Proofs.Ytmgdidhhgdpobaa.PrA
attribute [local go_sem] Oper.semAt_some

def outOf (m n j num den : Int) : Bool := rareB n m num den || rareB (m - n + j) m num den
def betStep (a s f num den : Int) (lh : Int × Int) (k : Nat) : Int × Int :=
  if outOf (binom a.toNat s.toNat) (uptoN a k s f) (justN a k s f) num den then lh else (if lh.1 < 0 then (k : Int) else lh.1, (k : Int))
def betN (a s f num den : Int) : Int × Int := (List.range (a.toNat + 1)).foldl (betStep a s f num den) (-1, 0)
def check_Between.f (a0 a1 a2 a3_0 a3_1 : Int) : Option (Int × Int × Int) :=
  some (if caseB a0 0 a1 a2 then (if riskOk a3_0 a3_1 then ((betN a0 a1 a2 a3_0 a3_1).1, (betN a0 a1 a2 a3_0 a3_1).2, 0) else (0, 0, 2)) else (0, 0, 3))

theorem isRisk_int (n d : Int) (w : World) : Calls Try.prog 66 #[.agg #[.int .i64 n, .int .i64 d]] w fun e w' => e = .returned (.bool (riskOk n d)) ∧ Below w.heap.size w w' :=
  check_isRisk.calls n d _ w (isRisk_is n d)

theorem bet_keep {W w' w'' : World} {p q : Addr} {x y : Value} (hb : Below w'.heap.size w' w'') (h : w'.cell? p = some x ∧ w'.cell? q = some y ∧ Below W.heap.size W w') : w''.cell? p = some x ∧ w''.cell? q = some y ∧ Below W.heap.size W w'' :=
  ⟨by rw [hb.cell (cell_size h.1)]; exact h.1, by rw [hb.cell (cell_size h.2.1)]; exact h.2.1, h.2.2.trans (hb.mono h.2.2.size)⟩
theorem bet_alloc {W w' : World} {p q : Addr} {x y : Value} {o : Obj} (h : w'.cell? p = some x ∧ w'.cell? q = some y ∧ Below W.heap.size W w') : (w'.alloc o).cell? p = some x ∧ (w'.alloc o).cell? q = some y ∧ Below W.heap.size W (w'.alloc o) :=
  bet_keep ((Below.refl _ _).alloc (Nat.le_refl _) _) h
theorem bet_set {W w' : World} {p q : Addr} {x y z : Value} {B : Nat} (hB : W.heap.size ≤ B ∧ p.block ≠ B ∧ q.block ≠ B) (h : w'.cell? p = some x ∧ w'.cell? q = some y ∧ Below W.heap.size W w') : (w'.setCell ⟨B, 0, none⟩ z).cell? p = some x ∧ (w'.setCell ⟨B, 0, none⟩ z).cell? q = some y ∧ Below W.heap.size W (w'.setCell ⟨B, 0, none⟩ z) :=
  ⟨by rw [World.cell?_setCell_other w' ⟨B, 0, none⟩ p z (fun e => hB.2.1 (by rw [← e]))]; exact h.1, by rw [World.cell?_setCell_other w' ⟨B, 0, none⟩ q z (fun e => hB.2.2 (by rw [← e]))]; exact h.2.1, h.2.2.setCell hB.1 _⟩

theorem choices_past (n : Nat) (hn : n ≤ 50) (X : World) : Calls Try.prog 59 #[.int .i64 n] (X.alloc (.cells #[.int .i64 0] 2)).drew fun e w' => e = .returned (.agg (cellsOf (rowF n))) ∧ Below (X.alloc (.cells #[.int .i64 0] 2)).drew.heap.size (X.alloc (.cells #[.int .i64 0] 2)).drew w' ∧ w'.cell? ⟨X.heap.size, 0, none⟩ = some (.int .i64 0) ∧ w'.frozen? ⟨X.heap.size, 0, none⟩ = false := by
  refine (choices_any n hn _).mono ?_
  rintro e w' ⟨rfl, hb⟩
  exact ⟨rfl, hb, by rw [hb.cell (by simp)]; simp, by rw [hb.frozen (by simp)]; simp⟩

theorem keepBut_setCell {n B : Nat} {X Y : World} (h : KeepBut n B X Y) (o : Nat) (v : Value) : KeepBut n B X (Y.setCell ⟨B, o, none⟩ v) :=
  ⟨by simpa [World.setCell] using h.1, fun k h1 h2 => by
    rw [← h.2 k h1 h2]
    simp only [World.setCell, Array.getElem?_modify]
    rw [if_neg (fun e => h2 e.symm)]⟩
theorem keepsOthers_of_below {W W' : World} (h : Below W.heap.size W W') : KeepsOthers W W' := ⟨h.size, fun k o hk _ => by rw [h.block k (Array.getElem?_eq_some_iff.1 hk).1]; exact hk⟩
theorem ownFrom_keepBut {β : Type} {n B B' : Nat} {w₀ : World} (hn : n ≤ w₀.heap.size) (hB : n ≤ B) : OwnFrom B (fun (_ : β) W => KeepBut n B' w₀ W) :=
  fun _ W _ _ hs hg hr => hs.trans ⟨hg.size, fun k h1 _ => hg.block k (Nat.lt_of_lt_of_le h1 (Nat.le_trans hn hs.1)) (fun e => by have := (hr k e.symm).1; omega)⟩
/-- what is known when some numbers have come -/
def betTo (a s f : Nat) (num den : Int) (pre : List (UpTo a)) : Int × Int := (pre.map (·.1)).foldl (betStep (a : Int) (s : Int) (f : Int) num den) (-1, 0)

set_option maxRecDepth 100000 in
set_option maxHeartbeats 8000000 in
theorem between_good (a s f : Nat) (num den : Int) (w : World) (ha1 : 1 ≤ a) (ha : a ≤ 50) (hs : s ≤ a) (hf : f ≤ s) (hr : riskOk num den = true) :
    Calls Try.prog 31 #[.int .i64 (a : Int), .int .i64 (s : Int), .int .i64 (f : Int), .agg #[.int .i64 num, .int .i64 den]] w
      fun e w' => e = .returned (.tuple #[.agg #[.int .i64 (betN a s f num den).1, .int .i64 (betN a s f num den).2], .int .i64 0]) ∧ Below w.heap.size w w' := by
  have hu27 := Try.underlying27
  obtain ⟨W, hW⟩ : ∃ W, W = ((((w.alloc (.cells #[.int .i64 (a : Int)] 3)).alloc (.cells #[.int .i64 (s : Int)] 3)).alloc (.cells #[.int .i64 (f : Int)] 3)).alloc (.cells #[.int .i64 num, .int .i64 den] 27)).alloc (.cells #[.int .i64 0, .int .i64 0] 39) := ⟨_, rfl⟩
  have hc := isCase_any (a : Int) 0 (s : Int) (f : Int) W
  have hcb : caseB (a : Int) 0 (s : Int) (f : Int) = true := by simp [caseB, outB]; omega
  rw [hcb] at hc
  have HC := Lib.hid hc
  have HK := Lib.hid (fun w' => by have := isRisk_int num den w'; rw [hr] at this; exact this : ∀ w', Calls Try.prog 66 #[.agg #[.int .i64 num, .int .i64 den]] w' fun e w'' => e = .returned (.bool true) ∧ Below w'.heap.size w' w'')
  have hbl : Below w.heap.size w W := by rw [hW]; exact (((((Below.refl w.heap.size w).alloc (Nat.le_refl _) _).alloc (by simp) _).alloc (by simp; omega) _).alloc (by simp; omega) _).alloc (by simp; omega) _
  have hws : W.heap.size = w.heap.size + 5 := by rw [hW]; simp
  have d0 : W.cell? ⟨w.heap.size, 0, none⟩ = some (.int .i64 (a : Int)) := by rw [hW]; simp [go_sem]
  have d1 : W.cell? ⟨w.heap.size + 1, 0, none⟩ = some (.int .i64 (s : Int)) := by rw [hW]; simp [go_sem]
  have d2 : W.cell? ⟨w.heap.size + 2, 0, none⟩ = some (.int .i64 (f : Int)) := by rw [hW]; simp [go_sem]
  have d3 : W.cell? ⟨w.heap.size + 3, 0, none⟩ = some (.int .i64 num) := by rw [hW]; simp [go_sem]
  have d4 : W.cell? ⟨w.heap.size + 3, 1, none⟩ = some (.int .i64 den) := by rw [hW]; simp [go_sem]
  have d5 : W.cell? ⟨w.heap.size + 4, 0, none⟩ = some (.int .i64 0) := by rw [hW]; simp [go_sem]
  have d6 : W.cell? ⟨w.heap.size + 4, 1, none⟩ = some (.int .i64 0) := by rw [hW]; simp [go_sem]
  have d7 : W.frozen? ⟨w.heap.size + 4, 0, none⟩ = false := by rw [hW]; simp [go_sem]
  have d8 : W.frozen? ⟨w.heap.size + 4, 1, none⟩ = false := by rw [hW]; simp [go_sem]
  have HD := Lib.hid (And.intro d0 (And.intro d1 (And.intro d2 (And.intro d3 (And.intro d4 (And.intro d5 (And.intro d6 (And.intro d7 d8))))))))
  have HBL := Lib.hid (And.intro hbl hws)
  have HR := Lib.hid hr
  clear hc hcb hr hbl hws d5 d6 d7 d8
  refine (callsIn_wide (n := 5)).1 (callsIn_of_wp_marks Try.func31 rfl trivial (wpIn_wide.2 ?_) rfl)
  simp only [Try.ntmps31, List.size_toArray, List.length_cons, List.length_nil, Nat.reduceAdd, Nat.reduceSub, Array.replicate_succ, Array.replicate_zero, List.push_toArray, List.append_toArray, List.nil_append, List.cons_append]
  go_wp2_with fail
  rw [← hW]
  clear hW
  refine HC.out.mono ?_
  rintro e w1 ⟨rfl, hw1⟩
  have e3 : w1.cell? ⟨w.heap.size + 3, 0, none⟩ = some (.int .i64 num) := by rw [hw1.cell (cell_size d3)]; exact d3
  have e4 : w1.cell? ⟨w.heap.size + 3, 1, none⟩ = some (.int .i64 den) := by rw [hw1.cell (cell_size d4)]; exact d4
  have HW1 := Lib.hid hw1
  clear hw1 d0 d1 d2 d3 d4
  go_wp2_with fail
  refine (HK.out _).mono ?_
  rintro e w2 ⟨rfl, hw2⟩
  have HW2 := Lib.hid (HW1.out.trans (hw2.mono HW1.out.size))
  have c0 : w2.cell? ⟨w.heap.size, 0, none⟩ = some (.int .i64 (a : Int)) := by rw [HW2.out.cell (cell_size HD.out.1)]; exact HD.out.1
  have c1 : w2.cell? ⟨w.heap.size + 1, 0, none⟩ = some (.int .i64 (s : Int)) := by rw [HW2.out.cell (cell_size HD.out.2.1)]; exact HD.out.2.1
  obtain ⟨m, hm⟩ : ∃ m, m = binom a s := ⟨_, rfl⟩
  have hix : ∀ w', (Instr.index 82 (.agg (cellsOf (rowF a))) (.int .i64 (s : Int))).run Try.prog w' = .ok (.int .i64 m) w' := fun w' => by
    rw [hm]; exact run_index_agg w' row_under row_key row_cells (by omega) (cellsOf_get _ _ (by omega))
  have HKC := Lib.hid (fun W => choices_any a ha W)
  have HM := Lib.hid hm
  clear hw2 e3 e4 hm
  go_upto_region 5 with fail
  go_cut [10] from 27 to 30 (fun s10 wx => ∃ B, s10 = .pointer (some ⟨B, 0, none⟩) ∧ Hid (wx.cell? ⟨B, 0, none⟩ = some (.int .i64 m) ∧ W.heap.size ≤ B ∧ Below W.heap.size W wx))
  case first =>
    have h0 : w2.drew.cell? ⟨w.heap.size, 0, none⟩ = some (.int .i64 (a : Int)) ∧ w2.drew.cell? ⟨w.heap.size + 1, 0, none⟩ = some (.int .i64 (s : Int)) ∧ Below W.heap.size W w2.drew := ⟨c0, c1, HW2.out.drew⟩
    have HBX := Lib.hid (⟨HW2.out.size, by have := HBL.out.2; have := HW2.out.size; omega, by have := HBL.out.2; have := HW2.out.size; omega⟩ : W.heap.size ≤ w2.heap.size ∧ w.heap.size ≠ w2.heap.size ∧ w.heap.size + 1 ≠ w2.heap.size)
    go_region_held3 (fun w' => w'.cell? ⟨w.heap.size, 0, none⟩ = some (.int .i64 (a : Int)) ∧ w'.cell? ⟨w.heap.size + 1, 0, none⟩ = some (.int .i64 (s : Int)) ∧ Below W.heap.size W w')
      (first | assumption | exact bet_keep (by assumption) (by assumption) | exact bet_alloc (by assumption) | exact bet_alloc (bet_keep (by assumption) (by assumption)) | exact bet_set HBX.out (by assumption))
      (first | (go_at_call 59; (with_reducible refine (choices_past a ha _).mono ?_); rintro e w' ⟨rfl, hb', hq1, hq2⟩) | (go_at_call 59; refine (HKC.out _).mono ?_; rintro e w' ⟨rfl, hb'⟩))
    all_goals go_wp2_with fail
    all_goals go_meet
    all_goals rename_i hh
    · exact ⟨_, rfl, Lib.hid ⟨by simp, Nat.le_trans HW2.out.size hb'.size, hh.2.2⟩⟩
    · exact ⟨_, rfl, Lib.hid ⟨by simp, Nat.le_trans HW2.out.size hb'.size, hh.2.2⟩⟩
    · exact ⟨_, rfl, Lib.hid ⟨World.cell?_setCell_same' _ _ _ (by rw [hq1]; rfl), HW2.out.size, hh.2.2⟩⟩
  case rest =>
    obtain ⟨B, rfl, HCUT⟩ := hcut
    have g0 : wc.cell? ⟨w.heap.size, 0, none⟩ = some (.int .i64 (a : Int)) := by rw [HCUT.out.2.2.cell (cell_size HD.out.1)]; exact HD.out.1
    have g1 : wc.cell? ⟨w.heap.size + 1, 0, none⟩ = some (.int .i64 (s : Int)) := by rw [HCUT.out.2.2.cell (cell_size HD.out.2.1)]; exact HD.out.2.1
    have g2 : wc.cell? ⟨w.heap.size + 2, 0, none⟩ = some (.int .i64 (f : Int)) := by rw [HCUT.out.2.2.cell (cell_size HD.out.2.2.1)]; exact HD.out.2.2.1
    have g3 : wc.cell? ⟨w.heap.size + 3, 0, none⟩ = some (.int .i64 num) := by rw [HCUT.out.2.2.cell (cell_size HD.out.2.2.2.1)]; exact HD.out.2.2.2.1
    have g4 : wc.cell? ⟨w.heap.size + 3, 1, none⟩ = some (.int .i64 den) := by rw [HCUT.out.2.2.cell (cell_size HD.out.2.2.2.2.1)]; exact HD.out.2.2.2.2.1
    clear c0 c1 hix
    go_upto_region 7 with fail
    obtain ⟨W3, hW3⟩ : ∃ W3, W3 = wc.alloc (.cells #[.int .i64 (-1), .int .i64 0] 39) := ⟨_, rfl⟩
    rw [← hW3]
    have hb3 : Below wc.heap.size wc W3 := by rw [hW3]; exact (Below.refl _ _).alloc (Nat.le_refl _) _
    have k0 : W3.cell? ⟨w.heap.size, 0, none⟩ = some (.int .i64 (a : Int)) := by rw [hb3.cell (cell_size g0)]; exact g0
    have k1 : W3.cell? ⟨w.heap.size + 1, 0, none⟩ = some (.int .i64 (s : Int)) := by rw [hb3.cell (cell_size g1)]; exact g1
    have k2 : W3.cell? ⟨w.heap.size + 2, 0, none⟩ = some (.int .i64 (f : Int)) := by rw [hb3.cell (cell_size g2)]; exact g2
    have k3 : W3.cell? ⟨w.heap.size + 3, 0, none⟩ = some (.int .i64 num) := by rw [hb3.cell (cell_size g3)]; exact g3
    have k4 : W3.cell? ⟨w.heap.size + 3, 1, none⟩ = some (.int .i64 den) := by rw [hb3.cell (cell_size g4)]; exact g4
    have k5 : W3.cell? ⟨B, 0, none⟩ = some (.int .i64 m) := by rw [hb3.cell (cell_size HCUT.out.1)]; exact HCUT.out.1
    have k6 : W3.cell? ⟨wc.heap.size, 0, none⟩ = some (.int .i64 (-1)) := by rw [hW3]; simp
    have k7 : W3.cell? ⟨wc.heap.size, 1, none⟩ = some (.int .i64 0) := by rw [hW3]; simp
    have k8 : W3.frozen? ⟨wc.heap.size, 0, none⟩ = false := by rw [hW3]; simp
    have k9 : W3.frozen? ⟨wc.heap.size, 1, none⟩ = false := by rw [hW3]; simp
    have hs3 : W3.heap.size = wc.heap.size + 1 := by rw [hW3]; simp
    have HK3 := Lib.hid (And.intro k3 (And.intro k4 (And.intro k5 (And.intro k6 (And.intro k7 (And.intro k8 k9))))))
    have HS3 := Lib.hid (And.intro hs3 (HCUT.out.2.2.trans (hb3.mono HCUT.out.2.2.size)))
    clear hW3 hb3 hs3 k3 k4 k5 k6 k7 k8 k9 g0 g1 g2 g3 g4
    go_wp2_with (go_at_call 67; refine (counts_any _ _ _ _).mono ?_; rintro e w' ⟨rfl, rfl⟩)
    obtain ⟨W6, hW6⟩ : ∃ W6, W6 = ((W3.alloc (.cells #[.int .i64 (a : Int)] 3)).alloc (.cells #[.int .i64 (s : Int)] 3)).alloc (.cells #[.int .i64 (f : Int)] 3) := ⟨_, rfl⟩
    rw [← hW6]
    have hb6 : Below W3.heap.size W3 W6 := by rw [hW6]; exact (((Below.refl W3.heap.size W3).alloc (Nat.le_refl _) _).alloc (by simp) _).alloc (by simp; omega) _
    have hs6 : W6.heap.size = W3.heap.size + 3 := by rw [hW6]; simp
    have b1 : W6.cell? ⟨W3.heap.size, 0, none⟩ = some (.int .i64 (a : Int)) := by rw [hW6]; simp [go_sem]
    have b2 : W6.cell? ⟨W3.heap.size + 1, 0, none⟩ = some (.int .i64 (s : Int)) := by rw [hW6]; simp [go_sem]
    have b3 : W6.cell? ⟨W3.heap.size + 2, 0, none⟩ = some (.int .i64 (f : Int)) := by rw [hW6]; simp [go_sem]
    have l0 : W6.cell? ⟨w.heap.size, 0, none⟩ = some (.int .i64 (a : Int)) := by rw [hb6.cell (cell_size k0)]; exact k0
    have l1 : W6.cell? ⟨w.heap.size + 1, 0, none⟩ = some (.int .i64 (s : Int)) := by rw [hb6.cell (cell_size k1)]; exact k1
    have l2 : W6.cell? ⟨w.heap.size + 2, 0, none⟩ = some (.int .i64 (f : Int)) := by rw [hb6.cell (cell_size k2)]; exact k2
    have l3 : W6.cell? ⟨w.heap.size + 3, 0, none⟩ = some (.int .i64 num) := by rw [hb6.cell (cell_size HK3.out.1)]; exact HK3.out.1
    have l4 : W6.cell? ⟨w.heap.size + 3, 1, none⟩ = some (.int .i64 den) := by rw [hb6.cell (cell_size HK3.out.2.1)]; exact HK3.out.2.1
    have l5 : W6.cell? ⟨B, 0, none⟩ = some (.int .i64 m) := by rw [hb6.cell (cell_size HK3.out.2.2.1)]; exact HK3.out.2.2.1
    have l6 : W6.cell? ⟨wc.heap.size, 0, none⟩ = some (.int .i64 (-1)) := by rw [hb6.cell (cell_size HK3.out.2.2.2.1)]; exact HK3.out.2.2.2.1
    have l7 : W6.cell? ⟨wc.heap.size, 1, none⟩ = some (.int .i64 0) := by rw [hb6.cell (cell_size HK3.out.2.2.2.2.1)]; exact HK3.out.2.2.2.2.1
    have l8 : W6.frozen? ⟨wc.heap.size, 0, none⟩ = false := by rw [hb6.frozen (cell_size HK3.out.2.2.2.1)]; exact HK3.out.2.2.2.2.2.1
    have l9 : W6.frozen? ⟨wc.heap.size, 1, none⟩ = false := by rw [hb6.frozen (cell_size HK3.out.2.2.2.2.1)]; exact HK3.out.2.2.2.2.2.2
    have hBB : B < wc.heap.size := cell_size HCUT.out.1
    have hww : Below w.heap.size w W6 := HBL.out.1.trans ((HS3.out.2.mono HBL.out.1.size).trans (hb6.mono (Nat.le_trans HBL.out.1.size HS3.out.2.size)))
    have hsz : w.heap.size + 5 ≤ wc.heap.size ∧ W6.heap.size = wc.heap.size + 4 := ⟨by have := HCUT.out.2.2.size; have := HBL.out.2; omega, by have := HS3.out.1; omega⟩
    have HST := Lib.hid (counts_stops a s f W3.heap.size W6.heap.size wc.heap.size ha hs hf W6 (Nat.le_refl _) (by omega) (by have := HS3.out.1; omega) b1 b2 b3 4)
    have HW6 := Lib.hid (HS3.out.2.trans (hb6.mono HS3.out.2.size))
    clear hW6 hb6 b1 b2 b3 k0 k1 k2
    refine (wpIn_wide (n := 5)).1 ?_
    refine wpIn_rangeFunc_ownF (F := Fence.wide) rfl (by decide) (gf := 78) (lb := #[.pointer (some ⟨W3.heap.size, 0, none⟩), .pointer (some ⟨W3.heap.size + 1, 0, none⟩), .pointer (some ⟨W3.heap.size + 2, 0, none⟩)]) rfl trivial (enters_of Try.func78 (by kernel_rfl) rfl)
      HST.out KeepBut.trans (KeepBut.putObj (Nat.le_refl _)) (Below.refl _ _) (fun _ => rfl)
      (fun pre W => (W.cell? ⟨wc.heap.size, 0, none⟩ = some (.int .i64 (betTo a s f num den pre).1) ∧ W.cell? ⟨wc.heap.size, 1, none⟩ = some (.int .i64 (betTo a s f num den pre).2) ∧ W.frozen? ⟨wc.heap.size, 0, none⟩ = false ∧ W.frozen? ⟨wc.heap.size, 1, none⟩ = false) ∧ KeepBut W6.heap.size wc.heap.size W6 W ∧ Below w.heap.size w W)
      (fun _ _ _ => False)
      (OwnFrom.and (Own.from (fun s A B row hs hg hr => ⟨Go.cell_kept hs.1 hg hr, Go.cell_kept hs.2.1 hg hr, (Go.frozen_kept hs.1 hg hr).trans hs.2.2.1, (Go.frozen_kept hs.2.1 hg hr).trans hs.2.2.2⟩) _) (OwnFrom.and (ownFrom_keepBut (Nat.le_refl _) (Nat.le_refl _)) (ownFrom_below (Nat.le_refl _) (by omega))))
      (fun _ _ _ _ _ hs _ _ => hs)
      ⟨⟨l6, l7, l8, l9⟩, KeepBut.refl _ _ _, hww⟩
      (fun x => { tmps := #[.int .i64 (a : Int), .int .i64 (s : Int), .int .i64 (f : Int), .agg #[.int .i64 num, .int .i64 den], .pointer (some ⟨w.heap.size, 0, none⟩), .pointer (some ⟨w.heap.size + 1, 0, none⟩), .pointer (some ⟨w.heap.size + 1 + 1, 0, none⟩), .pointer (some ⟨w.heap.size + 1 + 1 + 1, 0, none⟩), .pointer (some ⟨w.heap.size + 1 + 1 + 1 + 1, 0, none⟩), .int .i64 0, .pointer (some ⟨B, 0, none⟩), .pointer (some ⟨wc.heap.size, 0, none⟩), .int .i64 (x.1 : Int), .int .i64 (uptoN (a : Int) (x.1 : Int) (s : Int) (f : Int)), undef, .bool false, .int .i64 (a : Int), .int .i64 (s : Int), .int .i64 (f : Int), .bool true, .bool false, undef, .bool false, .agg #[.int .i64 num, .int .i64 den], .bool true, .bool false, undef, u27, u28, u29, u30, .agg #[.int .i64 (-1), .int .i64 0], .int .i64 (a : Int), .int .i64 (s : Int), .int .i64 (f : Int), .func (.func 78) #[] #[.pointer (some ⟨W3.heap.size, 0, none⟩), .pointer (some ⟨W3.heap.size + 1, 0, none⟩), .pointer (some ⟨W3.heap.size + 2, 0, none⟩)], .int .i64 (x.1 : Int), .int .i64 (uptoN (a : Int) (x.1 : Int) (s : Int) (f : Int)), undef, undef, undef, undef, undef, undef, undef, undef, undef, undef, undef, undef, undef, undef, undef, undef, undef, undef, undef, undef, undef, undef, undef, undef, undef, undef, undef, undef, undef], defers := [] }) ?assign ?body ?done ?stop
    case assign =>
      intro l x W K hK
      dsimp only [countsEnc]
      gi_wp2
      exact hK
    case body =>
      rintro l pre x W ⟨⟨hc1, hc2, hf1, hf2⟩, hkb, hbw⟩ hlen
      have m0 : W.cell? ⟨w.heap.size, 0, none⟩ = some (.int .i64 (a : Int)) := by rw [hkb.cell (by show w.heap.size < _; omega) (by show w.heap.size ≠ _; omega)]; exact l0
      have m1 : W.cell? ⟨w.heap.size + 1, 0, none⟩ = some (.int .i64 (s : Int)) := by rw [hkb.cell (by show w.heap.size + 1 < _; omega) (by show w.heap.size + 1 ≠ _; omega)]; exact l1
      have m2 : W.cell? ⟨w.heap.size + 2, 0, none⟩ = some (.int .i64 (f : Int)) := by rw [hkb.cell (by show w.heap.size + 2 < _; omega) (by show w.heap.size + 2 ≠ _; omega)]; exact l2
      have m3 : W.cell? ⟨w.heap.size + 3, 0, none⟩ = some (.int .i64 num) := by rw [hkb.cell (by show w.heap.size + 3 < _; omega) (by show w.heap.size + 3 ≠ _; omega)]; exact l3
      have m4 : W.cell? ⟨w.heap.size + 3, 1, none⟩ = some (.int .i64 den) := by rw [hkb.cell (by show w.heap.size + 3 < _; omega) (by show w.heap.size + 3 ≠ _; omega)]; exact l4
      have m5 : W.cell? ⟨B, 0, none⟩ = some (.int .i64 m) := by rw [hkb.cell (by show B < _; omega) (by show B ≠ _; omega)]; exact l5
      have HM5 := Lib.hid (And.intro m3 (And.intro m4 (And.intro m5 (And.intro hc1 (And.intro hc2 (And.intro hf1 hf2))))))
      have HKB := Lib.hid (And.intro hkb hbw)
      clear m3 m4 m5 hc1 hc2 hf1 hf2 hkb hbw l0 l1 l2 l3 l4 l5 l6 l7 l8 l9
      gi_wp2
      have hS : W.drew.cell? ⟨w.heap.size, 0, none⟩ = some (.int .i64 (a : Int)) ∧ W.drew.cell? ⟨w.heap.size + 1, 0, none⟩ = some (.int .i64 (s : Int)) ∧ W.drew.cell? ⟨w.heap.size + 2, 0, none⟩ = some (.int .i64 (f : Int)) ∧ Below W.heap.size W W.drew := ⟨m0, m1, m2, (Below.refl _ _).drew⟩
      refine wpIn_held_list (k := 8) rfl l (fun w' => w'.cell? ⟨w.heap.size, 0, none⟩ = some (.int .i64 (a : Int)) ∧ w'.cell? ⟨w.heap.size + 1, 0, none⟩ = some (.int .i64 (s : Int)) ∧ w'.cell? ⟨w.heap.size + 2, 0, none⟩ = some (.int .i64 (f : Int)) ∧ Below W.heap.size W w') (by kernel_rfl) (by kernel_rfl) (fun ⟨_, _, h⟩ => h) ?_
      refine take_list (i := 0) (v := .int .i64 (a : Int)) rfl (by kernel_rfl) (by kernel_rfl) (by kernel_rfl) (fun _ _ _ h => h) (by rfl) (by intro w' hw'; obtain ⟨x0, x1, x2, -⟩ := hw'; go_simp) hS ?_
      simp only [Act.put, List.setIfInBounds_toArray, List.set_cons_zero, List.set_cons_succ]
      refine take_list (i := 1) (v := .int .i64 (x.1 : Int)) rfl (by kernel_rfl) (by kernel_rfl) (by kernel_rfl) (fun _ _ _ h => h) (by rfl) (by intro w' hw'; obtain ⟨x0, x1, x2, -⟩ := hw'; go_simp) hS ?_
      simp only [Act.put, List.setIfInBounds_toArray, List.set_cons_zero, List.set_cons_succ]
      refine take_list (i := 2) (v := .int .i64 (s : Int)) rfl (by kernel_rfl) (by kernel_rfl) (by kernel_rfl) (fun _ _ _ h => h) (by rfl) (by intro w' hw'; obtain ⟨x0, x1, x2, -⟩ := hw'; go_simp) hS ?_
      simp only [Act.put, List.setIfInBounds_toArray, List.set_cons_zero, List.set_cons_succ]
      refine take_list (i := 4) (v := .int .i64 (f : Int)) rfl (by kernel_rfl) (by kernel_rfl) (by kernel_rfl) (fun _ _ _ h => h) (by rfl) (by intro w' hw'; obtain ⟨x0, x1, x2, -⟩ := hw'; go_simp) hS ?_
      simp only [Act.put, List.setIfInBounds_toArray, List.set_cons_zero, List.set_cons_succ]
      refine take_list (i := 5) (v := .agg #[.int .i64 (f : Int)]) rfl (by kernel_rfl) (by kernel_rfl) (by kernel_rfl) (fun _ _ _ h => h) (by rfl) (by intro w' hw'; obtain ⟨x0, x1, x2, -⟩ := hw'; go_simp) hS ?_
      simp only [Act.put, List.setIfInBounds_toArray, List.set_cons_zero, List.set_cons_succ]
      refine step_list (i := 3) (by kernel_rfl) rfl (by rfl) (fun K hK => ?_)
      go_simp
      refine (samples_int (a : Int) (x.1 : Int) (s : Int) (by omega) (by omega) (by have := x.2; omega) (by omega) (by omega) W.drew).mono ?_
      rintro e w7 ⟨⟨bm, nm, rfl, D, hown, htell⟩, hb2⟩
      have hb7 : Below W.heap.size W w7 := (Below.refl W.heap.size W).drew.trans hb2
      have hS7 : w7.cell? ⟨w.heap.size, 0, none⟩ = some (.int .i64 (a : Int)) ∧ w7.cell? ⟨w.heap.size + 1, 0, none⟩ = some (.int .i64 (s : Int)) ∧ w7.cell? ⟨w.heap.size + 2, 0, none⟩ = some (.int .i64 (f : Int)) ∧ Below W.heap.size W w7 :=
        ⟨by rw [hb7.cell (cell_size m0)]; exact m0, by rw [hb7.cell (cell_size m1)]; exact m1, by rw [hb7.cell (cell_size m2)]; exact m2, hb7⟩
      refine hK _ _ hS7 ?_
      clear hK K
      obtain ⟨c, hrun, hat, hwc⟩ := hown.lookup_int (q := .i64) kind_law Try.underlying85 Try.underlying2 (zero_int64 w7) (kind_key (x := (f : Int)) (WalkArith.wf_i64 (by omega)))
      have hcj : c = justN (a : Int) (x.1 : Int) (s : Int) (f : Int) := by
        have h1 := htell (f : Int) (WalkArith.wf_i64 (by omega))
        rw [hat, kinds_just (by omega) (by have := x.2; omega) (by omega) (by omega)] at h1
        simpa using h1
      have HCJ := Lib.hid hcj
      have hul := uptoN_le (a := (a : Int)) (w := (x.1 : Int)) (f := (f : Int)) (s := (s : Int)) (by omega) (by have := x.2; omega) (by omega) (by omega)
      have hun := uptoN_nat (a : Int) (x.1 : Int) (s : Int) (f : Int)
      have hjl : justN (a : Int) (x.1 : Int) (s : Int) (f : Int) ≤ (binom a s : Int) := by
        have := term_le x.1 (a - x.1) s f hf
        rw [show x.1 + (a - x.1) = a by have := x.2; omega] at this
        unfold justN
        simp only [Int.toNat_natCast]
        rw [show ((a : Int) - (x.1 : Int)).toNat = a - x.1 by omega, show ((s : Int) - (f : Int)).toNat = s - f by omega]
        exact_mod_cast this
      have hj0 : 0 ≤ justN (a : Int) (x.1 : Int) (s : Int) (f : Int) := by unfold justN; omega
      have hbb := binom_le50 a s ha
      simp only [Int.toNat_natCast] at hul
      rw [← HM.out] at hul hjl hbb
      have hu1 : uptoN (a : Int) (x.1 : Int) (s : Int) (f : Int) ≤ (m : Int) := by omega
      have hu0 : 0 ≤ uptoN (a : Int) (x.1 : Int) (s : Int) (f : Int) := by omega
      rw [← hcj] at hjl hj0
      clear hown htell hat hwc hcj hul hun
      refine step_list (i := 6) (by kernel_rfl) rfl (by rfl) (fun K hK => ?_)
      unfold Oper.wp
      simp [execOp, hrun, Result.andThen, Act.eval, Oper.upon, Act.put]
      refine hK _ _ hS7 ?_
      clear hK K hrun
      refine take_list (i := 7) (v := .int .i64 c) rfl (by kernel_rfl) (by kernel_rfl) (by kernel_rfl) (fun _ _ _ h => h) (by rfl) (by intro w' hw'; go_simp) hS7 ?_
      simp only [Act.put, List.setIfInBounds_toArray, List.set_cons_zero, List.set_cons_succ]
      refine wpAnyH_done (by kernel_rfl) ?_ _
      have hstep : betTo a s f num den (pre ++ [x]) = if outOf (m : Int) (uptoN (a : Int) (x.1 : Int) (s : Int) (f : Int)) c num den then betTo a s f num den pre else (if (betTo a s f num den pre).1 < 0 then (x.1 : Int) else (betTo a s f num den pre).1, (x.1 : Int)) := by
        have hone : ∀ lh : Int × Int, betStep (a : Int) (s : Int) (f : Int) num den lh x.1 = if outOf (m : Int) (uptoN (a : Int) (x.1 : Int) (s : Int) (f : Int)) c num den then lh else (if lh.1 < 0 then (x.1 : Int) else lh.1, (x.1 : Int)) := fun lh => by
          unfold betStep
          simp only [Int.toNat_natCast]
          rw [HM.out, HCJ.out]
        unfold betTo
        rw [List.map_append, List.foldl_append]
        simp only [List.map_cons, List.map_nil, List.foldl_cons, List.foldl_nil]
        exact hone _
      have HSTEP := Lib.hid hstep
      have n3 : w7.cell? ⟨w.heap.size + 3, 0, none⟩ = some (.int .i64 num) := by rw [hb7.cell (cell_size HM5.out.1)]; exact HM5.out.1
      have n4 : w7.cell? ⟨w.heap.size + 3, 1, none⟩ = some (.int .i64 den) := by rw [hb7.cell (cell_size HM5.out.2.1)]; exact HM5.out.2.1
      have n5 : w7.cell? ⟨B, 0, none⟩ = some (.int .i64 m) := by rw [hb7.cell (cell_size HM5.out.2.2.1)]; exact HM5.out.2.2.1
      have HRA := Lib.hid (fun n m num den W => rare_int n m num den W)
      have HB7 := Lib.hid hb7
      clear hstep hb7 hb2 hS hS7 m0 m1 m2
      generalize uptoN (a : Int) (x.1 : Int) (s : Int) (f : Int) = u at *
      have hwl : wc.heap.size < W.heap.size := cell_size HM5.out.2.2.2.1
      have HEND : Hid (∀ W', Below W.heap.size W W' → KeepsOthers W W' ∧ KeepBut W6.heap.size wc.heap.size W W' ∧ (W'.cell? ⟨wc.heap.size, 0, none⟩ = some (.int .i64 (betTo a s f num den pre).1) ∧ W'.cell? ⟨wc.heap.size, 1, none⟩ = some (.int .i64 (betTo a s f num den pre).2) ∧ W'.frozen? ⟨wc.heap.size, 0, none⟩ = false ∧ W'.frozen? ⟨wc.heap.size, 1, none⟩ = false) ∧ KeepBut W6.heap.size wc.heap.size W6 W' ∧ Below w.heap.size w W') := Lib.hid (fun W' hb => by
        have h1 := HM5.out
        have h2 := HKB.out
        refine ⟨keepsOthers_of_below hb, KeepBut.of_below hb h2.1.1, ⟨?_, ?_, ?_, ?_⟩, h2.1.trans (KeepBut.of_below hb h2.1.1), h2.2.trans (hb.mono h2.2.size)⟩
        · rw [hb.cell hwl]; exact h1.2.2.2.1
        · rw [hb.cell hwl]; exact h1.2.2.2.2.1
        · rw [hb.frozen hwl]; exact h1.2.2.2.2.2.1
        · rw [hb.frozen hwl]; exact h1.2.2.2.2.2.2)
      cases q1 : rareB u m num den
      · cases q2 : rareB (m - u + c) m num den
        · have HQ := Lib.hid (by rw [HSTEP.out]; simp only [outOf, q1, q2, Bool.or_self, Bool.false_eq_true, if_false] : betTo a s f num den (pre ++ [x]) = (if (betTo a s f num den pre).1 < 0 then (x.1 : Int) else (betTo a s f num den pre).1, (x.1 : Int)))
          have Q1 := Lib.hid q1
          have Q2 := Lib.hid q2
          clear q1 q2 HSTEP
          gi_wp2
          refine ⟨trivial, ((callsIn_wide.2 (HRA.out _ _ _ _ _)).inRound l).mono ?_⟩
          rintro e w8 ⟨rfl, hw8⟩
          rw [Q1.out]
          have r3 : w8.cell? ⟨w.heap.size + 3, 0, none⟩ = some (.int .i64 num) := by rw [hw8.cell (cell_size n3)]; exact n3
          have r4 : w8.cell? ⟨w.heap.size + 3, 1, none⟩ = some (.int .i64 den) := by rw [hw8.cell (cell_size n4)]; exact n4
          have r5 : w8.cell? ⟨B, 0, none⟩ = some (.int .i64 m) := by rw [hw8.cell (cell_size n5)]; exact n5
          have HB8 := Lib.hid (HB7.out.trans (hw8.mono HB7.out.size))
          clear hw8 n3 n4 n5
          gi_wp2
          refine ⟨trivial, ((callsIn_wide.2 (HRA.out _ _ _ _ _)).inRound l).mono ?_⟩
          rintro e w9 ⟨rfl, hw9⟩
          rw [Q2.out]
          have hb9 := HB8.out.trans (hw9.mono HB8.out.size)
          obtain ⟨z1, z2, ⟨t1, t2, t3, t4⟩, z4, z5⟩ := HEND.out w9 hb9
          have HZ := Lib.hid (And.intro z1 (And.intro z2 (And.intro z4 z5)))
          have hle := HBL.out.1.size
          have hwcw : w.heap.size ≤ wc.heap.size := by omega
          clear r3 r4 r5 hw9 hb9 z1 z2 z4 z5
          by_cases hneg : (betTo a s f num den pre).1 < 0
          · rw [if_pos hneg] at HQ
            gi_wp2
            refine ⟨HZ.out.1.trans ((KeepsOthers.setCell _ _ _).trans (KeepsOthers.setCell _ _ _)), keepBut_setCell (keepBut_setCell HZ.out.2.1 _ _) _ _, ⟨?_, ?_, ?_, ?_⟩, keepBut_setCell (keepBut_setCell HZ.out.2.2.1 _ _) _ _, (HZ.out.2.2.2.setCell hwcw _).setCell hwcw _⟩
            · rw [HQ.out, World.cell?_setCell_other _ _ _ _ (by simp)]; exact World.cell?_setCell_same' _ _ _ (by rw [t1]; rfl)
            · rw [HQ.out]; exact World.cell?_setCell_same' _ _ _ (by rw [World.cell?_setCell_other _ _ _ _ (by simp), t2]; rfl)
            · rw [World.frozen?_setCell, World.frozen?_setCell]; exact t3
            · rw [World.frozen?_setCell, World.frozen?_setCell]; exact t4
          · rw [if_neg hneg] at HQ
            gi_wp2
            refine ⟨HZ.out.1.trans (KeepsOthers.setCell _ _ _), keepBut_setCell HZ.out.2.1 _ _, ⟨?_, ?_, ?_, ?_⟩, keepBut_setCell HZ.out.2.2.1 _ _, HZ.out.2.2.2.setCell hwcw _⟩
            · rw [HQ.out, World.cell?_setCell_other _ _ _ _ (by simp)]; exact t1
            · rw [HQ.out]; exact World.cell?_setCell_same' _ _ _ (by rw [t2]; rfl)
            · rw [World.frozen?_setCell]; exact t3
            · rw [World.frozen?_setCell]; exact t4
        · have HQ := Lib.hid (by rw [HSTEP.out]; simp only [outOf, q1, q2, Bool.or_true, if_true] : betTo a s f num den (pre ++ [x]) = betTo a s f num den pre)
          have Q1 := Lib.hid q1
          have Q2 := Lib.hid q2
          clear q1 q2 HSTEP
          gi_wp2
          refine ⟨trivial, ((callsIn_wide.2 (HRA.out _ _ _ _ _)).inRound l).mono ?_⟩
          rintro e w8 ⟨rfl, hw8⟩
          rw [Q1.out]
          have r3 : w8.cell? ⟨w.heap.size + 3, 0, none⟩ = some (.int .i64 num) := by rw [hw8.cell (cell_size n3)]; exact n3
          have r4 : w8.cell? ⟨w.heap.size + 3, 1, none⟩ = some (.int .i64 den) := by rw [hw8.cell (cell_size n4)]; exact n4
          have r5 : w8.cell? ⟨B, 0, none⟩ = some (.int .i64 m) := by rw [hw8.cell (cell_size n5)]; exact n5
          have HB8 := Lib.hid (HB7.out.trans (hw8.mono HB7.out.size))
          clear hw8 n3 n4 n5
          gi_wp2
          refine ⟨trivial, ((callsIn_wide.2 (HRA.out _ _ _ _ _)).inRound l).mono ?_⟩
          rintro e w9 ⟨rfl, hw9⟩
          rw [Q2.out]
          have HB9 := Lib.hid (HB8.out.trans (hw9.mono HB8.out.size))
          clear hw9
          gi_wp2
          have hfin := HEND.out _ HB9.out
          rw [← HQ.out] at hfin
          exact hfin
      · have HQ := Lib.hid (by rw [HSTEP.out]; simp only [outOf, q1, Bool.true_or, if_true] : betTo a s f num den (pre ++ [x]) = betTo a s f num den pre)
        have Q1 := Lib.hid q1
        clear q1 HSTEP
        gi_wp2
        refine ⟨trivial, ((callsIn_wide.2 (HRA.out _ _ _ _ _)).inRound l).mono ?_⟩
        rintro e w8 ⟨rfl, hw8⟩
        rw [Q1.out]
        have hb8 : Below W.heap.size W w8 := HB7.out.trans (hw8.mono HB7.out.size)
        have HB8 := Lib.hid hb8
        clear hw8 hb8
        gi_wp2
        refine ⟨trivial, ?_⟩
        gi_wp2
        have hfin := HEND.out _ HB8.out
        rw [← HQ.out] at hfin
        exact hfin
    case done =>
      rintro D ys W' hD hys ⟨⟨hc1, hc2, hf1, hf2⟩, hkb, hbw⟩ hK
      have hcell : ∀ p : Addr, ∀ v, W.cell? p = some v → p.block < W.heap.size → W'.cell? p = some v ∧ W'.frozen? p = W.frozen? p := fun p v hv hp => by
        have h1 := HW6.out
        have h2 := HCUT.out.2.2.size
        have h3 : p.block < W6.heap.size := Nat.lt_of_lt_of_le hp h1.size
        have h4 : p.block ≠ wc.heap.size := by omega
        exact ⟨by rw [hkb.cell h3 h4, h1.cell hp]; exact hv, by rw [hkb.frozen h3 h4, h1.frozen hp]⟩
      obtain ⟨v1, v2⟩ := hcell ⟨w.heap.size + 4, 0, none⟩ _ HD.out.2.2.2.2.2.1 (by have := HBL.out.2; show w.heap.size + 4 < _; omega)
      obtain ⟨v3, v4⟩ := hcell ⟨w.heap.size + 4, 1, none⟩ _ HD.out.2.2.2.2.2.2.1 (by have := HBL.out.2; show w.heap.size + 4 < _; omega)
      rw [HD.out.2.2.2.2.2.2.2.1] at v2
      rw [HD.out.2.2.2.2.2.2.2.2] at v4
      have hbt : betTo a s f num den ys = betN a s f num den := by
        unfold betTo betN
        rw [hys, Int.toNat_natCast]
      rw [hbt] at hc1 hc2
      have HBW := Lib.hid hbw
      have HDK := Lib.hid (And.intro hD hK)
      clear hcell hkb hbw hD hK hbt hys
      obtain ⟨q, hq⟩ : ∃ q, q = betN a s f num den := ⟨_, rfl⟩
      rw [← hq] at hc1 hc2
      have HQQ := Lib.hid hq
      clear hq
      gi_wp2
      go_wp2
      have hle : w.heap.size ≤ w.heap.size + 4 := Nat.le_add_right _ _
      have hK' := ((KeepsOthers.setCell W' ⟨w.heap.size + 4, 0, none⟩ (.int .i64 q.1)).trans (KeepsOthers.setCell _ ⟨w.heap.size + 4, 1, none⟩ (.int .i64 q.2))).same D _ HDK.out.2 rfl
      refine ⟨by simp, .inl ⟨_, _, rfl, run_takeDeferred hK', ?_⟩⟩
      have hg := grownBy_putObj' ((W'.setCell ⟨w.heap.size + 4, 0, none⟩ (.int .i64 q.1)).setCell ⟨w.heap.size + 4, 1, none⟩ (.int .i64 q.2)) D (.deferred none)
      have y1 := Go.cell_kept (show ((W'.setCell ⟨w.heap.size + 4, 0, none⟩ (.int .i64 q.1)).setCell ⟨w.heap.size + 4, 1, none⟩ (.int .i64 q.2)).cell? ⟨w.heap.size + 4, 0, none⟩ = some (.int .i64 q.1) by rw [World.cell?_setCell_other _ _ _ _ (by simp)]; exact World.cell?_setCell_same' _ _ _ (by rw [v1]; rfl)) hg (fun r e => by cases e; exact ⟨_, hK', rfl⟩)
      have y2 := Go.cell_kept (show ((W'.setCell ⟨w.heap.size + 4, 0, none⟩ (.int .i64 q.1)).setCell ⟨w.heap.size + 4, 1, none⟩ (.int .i64 q.2)).cell? ⟨w.heap.size + 4, 1, none⟩ = some (.int .i64 q.2) by exact World.cell?_setCell_same' _ _ _ (by rw [World.cell?_setCell_other _ _ _ _ (by simp), v3]; rfl)) hg (fun r e => by cases e; exact ⟨_, hK', rfl⟩)
      refine ⟨.tuple #[.agg #[.int .i64 q.1, .int .i64 q.2], .int .i64 0], ?_, by rw [HQQ.out], ((HBW.out.setCell hle _).setCell hle _).trans (belowK_b (w := W6) (by have := HBW.out.size; have := hww.size; omega) _ D _ _ HDK.out.1 hK' rfl rfl)⟩
      simp [results, Try.results31, go_sem, y1, y2]
    case stop =>
      rintro D c pre W _ _ h _
      exact h.elim
end Go.Proofs.Ytmgdidhhgdpobaa.Hand
