/- The function choices comes to the row of so many logs. -/
import Derived.Test.YtmgdidhhgdpobaaProg
import Derived.Test.YtmgdidhhgdpobaaHPlain
import Derived.Test.YtmgdidhhgdpobaaHRows
import Derived.WalkKit
import Derived.Lib.Hide
import Derived.Great.BuildSlice
namespace Go.Proofs.Ytmgdidhhgdpobaa.Hand
open Go.RowKit

theorem zero_row : (Try.prog.info? 82).map (fun i => (i.zero, i.size)) = some (some (.agg (cellsOf fun _ => 0)), 51) := by kernel_rfl
theorem row_key : Try.prog.plainKey 2 = true := by kernel_rfl
theorem row_cells : Try.prog.cellsOf 2 = 1 := by kernel_rfl
theorem row_under : Try.prog.underlying 82 = some (.array 51 2) := by kernel_rfl
theorem zeros_replicate : Array.replicate 51 (Value.int .i64 0) = cellsOf fun _ => 0 := by
  apply Array.ext_getElem?
  intro j
  by_cases h : j < 51
  · rw [cellsOf_get _ _ h]; simp [h]
  · rw [Array.getElem?_eq_none (by simp; omega), Array.getElem?_eq_none (by rw [cellsOf_size]; omega)]

/-- what lies in memory at a round's head -/
def RowsAt (W : World) (B : Nat) (w : World) (k : Nat) : Prop :=
  W.heap[B]? = some (.cells (cellsOf fun _ => 0) 82 (0, 0)) ∧ W.heap[B + 1]? = some (.cells (cellsOf (rowF k)) 82 (0, 0)) ∧ Below B w W

/-- the same inside a round -/
def StepAt (W : World) (B : Nat) (w : World) (k i : Nat) : Prop :=
  W.heap[B]? = some (.cells (cellsOf fun _ => 0) 82 (0, 0)) ∧ W.heap[B + 1]? = some (.cells (cellsOf (stepF k i)) 82 (0, 0)) ∧ Below B w W
theorem StepAt.next {W : World} {B : Nat} {w : World} {k i : Nat} (h : StepAt W B w k i) :
    StepAt ((W.setCell ⟨B + 1, i, none⟩ (.int .i64 (stepF k i i + binom k i))).setCell ⟨B + 1, i + 1, none⟩ (.int .i64 (stepF k i (i + 1) + binom k i))) B w k (i + 1) := by
  refine ⟨heap_far (heap_far h.1 (by simp) _) (by simp) _, ?_, (h.2.2.setCell (by simp) _).setCell (by simp) _⟩
  have h1 := heap_setCell_same W (B + 1) i _ _ (.int .i64 (stepF k i i + binom k i)) h.2.1
  rw [cellsOf_set] at h1
  have h2 := heap_setCell_same _ (B + 1) (i + 1) _ _ (.int .i64 (stepF k i (i + 1) + binom k i)) h1
  rw [cellsOf_set, ← stepF_succ] at h2
  exact h2

set_option maxHeartbeats 2000000 in
set_option maxRecDepth 100000 in
theorem choices_any (n : Nat) (hn : n ≤ 50) (w : World) :
    Calls Try.prog 59 #[.int .i64 n] w fun e w' => e = .returned (.agg (cellsOf (rowF n))) ∧ Below w.heap.size w w' := by
  obtain ⟨hz, hs⟩ := zero_of_info zero_row
  have HS := Lib.hid hs
  clear hs
  go_enter Try.func59, Try.ntmps59
  go_wp2
  obtain ⟨B, hB⟩ : ∃ B, B = w.heap.size := ⟨_, rfl⟩
  go_loopw [9] (fun i wr => ∃ k : Nat, k ≤ n ∧ i = .int .i64 k ∧ RowsAt wr w.heap.size w k) (fun i _ => n - (intOf i).toNat)
  case atStart =>
    refine ⟨0, Nat.zero_le _, rfl, ?_, ?_, ?_⟩
    · exact heap_past (heap_alloc_last w _) _
    · have := heap_alloc_last (w.alloc (.cells (cellsOf fun x => 0) 82)) (Obj.cells ((cellsOf fun x => 0).setIfInBounds 0 (Value.int IntKind.i64 1)) 82)
      rw [World.size_alloc, cellsOf_set, rowF_zero] at this
      rw [cellsOf_set, rowF_zero]
      exact this
    · exact ((Below.refl _ _).alloc (Nat.le_refl _) _).alloc (by simp) _
  case round =>
    obtain ⟨k, hk, rfl, hR⟩ := hrel
    have HR := Lib.hid hR
    clear hR
    by_cases hlt : k < n
    · have hlt' : (k : Int) < (n : Int) := by omega
      have hh := HR.out.2.1
      have hh1 := heap_past hh (.cells (cellsOf (rowF k)) 82)
      have hst := run_storeCells_new (P := Try.prog) wr 82 (cellsOf fun _ => 0) (cellsOf (rowF k)) (by rw [cellsOf_size]; exact HS.out) (by rw [cellsOf_size, cellsOf_size]) (cellsOf_one _)
      have hcl : ∀ ty, (Builtin.clear_ #[105] ty #[.slice (some ⟨w.heap.size + 1, 0, none⟩) 51 51]).run Try.prog (wr.alloc (.cells (cellsOf (rowF k)) 82)) = .ok (.tuple #[]) ((wr.alloc (.cells (cellsOf (rowF k)) 82)).setRow (w.heap.size + 1) (cellsOf fun _ => 0)) := fun ty => by
        have := run_clear_row (P := Try.prog) (wr.alloc (.cells (cellsOf (rowF k)) 82)) 105 2 ty (.int .i64 0) Try.underlying105 (fun _ => by kernel_rfl) rfl rfl (w.heap.size + 1) 51 51 (by omega) _ _ hh1 (cellsOf_size _)
        rw [zeros_replicate] at this
        exact this
      have hlt1 := heap_lt hh
      have hh3 := setRow_heap (wr.alloc (.cells (cellsOf (rowF k)) 82)) (w.heap.size + 1) _ (cellsOf fun _ => 0) _ _ hh1
      have hh4 := heap_farRow (heap_alloc_last wr (.cells (cellsOf (rowF k)) 82)) (b := w.heap.size + 1) (by omega) (cellsOf fun _ => 0)
      have hh5 := heap_farRow (heap_past HR.out.1 (.cells (cellsOf (rowF k)) 82)) (b := w.heap.size + 1) (by omega) (cellsOf fun _ => 0)
      have hb5 := below_setRow (HR.out.2.2.alloc HR.out.2.2.size (.cells (cellsOf (rowF k)) 82)) (g := w.heap.size + 1) (by omega) (cellsOf fun _ => 0)
      clear hh1
      have HX := Lib.hid (And.intro hh3 (And.intro hh5 hb5))
      clear hh3 hh5 hb5
      go_wp2_with (first | (refine wpList_load_row rfl 82 (.tmp 3) rfl (w.heap.size + 1) rfl 82 (cellsOf (rowF k)) (0, 0) _ hh row_under rfl HS.out ?_) | (refine wpList_load_row rfl 82 (.tmp 4) rfl wr.heap.size rfl 82 (cellsOf (rowF k)) (0, 0) _ hh4 row_under rfl HS.out ?_))
      clear hh4 hst hcl hh
      obtain ⟨wo, rfl⟩ : ∃ wo : World, wo = wr := ⟨_, rfl⟩
      go_loopw [14] (fun j wr => ∃ i : Nat, i ≤ k + 1 ∧ j = .int .i64 i ∧ StepAt wr w.heap.size w k i) (fun j _ => 60 - (intOf j).toNat)
      case atStart =>
        have hx := HX.out
        rw [← stepF_zero k] at hx
        exact ⟨0, by omega, rfl, by rw [← stepF_zero k]; rw [stepF_zero k]; exact HX.out.2.1, by rw [stepF_zero k]; exact HX.out.1, HX.out.2.2⟩
      case round =>
        obtain ⟨i, hi, rfl, hS⟩ := hrel
        have HSt := Lib.hid hS
        clear hS
        obtain ⟨x, hx⟩ : ∃ x, x = (binom k i : Int) := ⟨_, rfl⟩
        have hix : ∀ w', (Instr.index 82 (.agg (cellsOf (rowF k))) (.int .i64 (i : Int))).run Try.prog w' = .ok (.int .i64 x) w' := fun w' => by
          rw [hx]; exact run_index_agg w' row_under row_key row_cells (by omega) (cellsOf_get _ _ (by omega))
        have hb0 : 0 ≤ x := by omega
        have hb1 : x ≤ 1125899906842624 := by have := binom_le50 k i (by omega); omega
        by_cases hik : i ≤ k
        · have hx0 : (x == 0) = false := beq_eq_false_iff_ne.2 (by have := binom_pos k i hik; omega)
          have c1 : wr.cell? ⟨w.heap.size + 1, i, none⟩ = some (.int .i64 (stepF k i i)) := by rw [cell_of_row wr _ i _ _ _ HSt.out.2.1]; exact cellsOf_get _ _ (by omega)
          have c2 : wr.cell? ⟨w.heap.size + 1, i + 1, none⟩ = some (.int .i64 (stepF k i (i + 1))) := by rw [cell_of_row wr _ (i + 1) _ _ _ HSt.out.2.1]; exact cellsOf_get _ _ (by omega)
          have f1 : wr.frozen? ⟨w.heap.size + 1, i, none⟩ = false := frozen_of_row wr _ i _ _ HSt.out.2.1
          have f2 : wr.frozen? ⟨w.heap.size + 1, i + 1, none⟩ = false := frozen_of_row wr _ (i + 1) _ _ HSt.out.2.1
          have b1 := stepF_bound k i i (by omega)
          have b2 := stepF_bound k i (i + 1) (by omega)
          have HN := Lib.hid HSt.out.next
          have HXX := Lib.hid hx
          rw [← hx] at HN
          clear hx
          obtain ⟨y1, hy1⟩ : ∃ y, y = stepF k i i := ⟨_, rfl⟩
          obtain ⟨y2, hy2⟩ : ∃ y, y = stepF k i (i + 1) := ⟨_, rfl⟩
          rw [← hy1] at c1 b1 HN
          rw [← hy2] at c2 b2 HN
          clear hy1 hy2
          obtain ⟨b1l, b1u⟩ := b1
          obtain ⟨b2l, b2u⟩ := b2
          go_wp2
          go_roundw
          case rel => exact ⟨i + 1, by omega, by go_num, HN.out⟩
          case measure => simp [intOf]; omega
        · have hx0 : (x == 0) = true := by rw [hx, binom_gt k i (by omega)]; rfl
          have HI : Hid (i = k + 1) := by show i = k + 1; omega
          clear hx hik
          go_wp2
          go_roundw
          case rel => exact ⟨k + 1, by omega, by go_num, HSt.out.1, by rw [← stepF_end, ← HI.out]; exact HSt.out.2.1, HSt.out.2.2⟩
          case measure => simp [intOf]; omega
    · have hke : k = n := by omega
      have HK := Lib.hid hke
      clear hke
      have hh := HR.out.2.1
      have hlt1 := heap_lt hh
      have hw := setRow_heap wr w.heap.size _ (cellsOf (rowF k)) _ _ HR.out.1
      go_wp2_with (first | (refine wpList_load_row rfl 82 (.tmp 3) rfl (w.heap.size + 1) rfl 82 (cellsOf (rowF k)) (0, 0) _ hh row_under rfl HS.out ?_) | (refine wpList_store_rowTo rfl 82 (.tmp 2) (.tmp 37) rfl rfl w.heap.size (cellsOf (rowF k)) rfl rfl 82 _ HR.out.1 HS.out rfl (cellsOf_one _) ?_))
      refine bodyPost_ret (v := .agg (cellsOf (rowF k))) ?_ rfl ⟨?_, ?_⟩
      · exact results_cell_row Try.results59 _ _ w.heap.size 82 (cellsOf (rowF k)) (0, 0) _ rfl hw row_under rfl HS.out
      · rw [HK.out]
      · exact below_setRow HR.out.2.2 (Nat.le_refl _) _

theorem choices_int (n : Int) (h0 : 0 ≤ n) (h1 : n ≤ 50) (w : World) :
    Calls Try.prog 59 #[.int .i64 n] w fun e w' => e = .returned (.agg (cellsOf (rowF n.toNat))) ∧ Below w.heap.size w w' := by
  obtain ⟨m, rfl⟩ := Int.eq_ofNat_of_zero_le h0
  rw [Int.toNat_natCast]
  exact choices_any m (by omega) w
end Go.Proofs.Ytmgdidhhgdpobaa.Hand
