/- The function upTo comes to the number of samples in which at most so many wrong logs are found. -/
import Derived.Test.YtmgdidhhgdpobaaHChoices
import Derived.IntWalk
import Derived.WalkSmall
import Derived.Deep.QuietTactic
import Derived.BigQuiet
namespace Go.Proofs.Ytmgdidhhgdpobaa.Hand
open Go.RowKit

/-- two rows in memory -/
def TwoAt (W : World) (B w v : Nat) : Prop :=
  W.heap[B]? = some (.cells (cellsOf (rowF w)) 82 (0, 0)) ∧ W.heap[B + 1]? = some (.cells (cellsOf (rowF v)) 82 (0, 0))
theorem two_made (W : World) (w v : Nat) (c d : Array Value) :
    TwoAt ((((W.alloc (.cells c 82)).alloc (.cells d 82)).setRow W.heap.size (cellsOf (rowF w))).setRow (W.heap.size + 1) (cellsOf (rowF v))) W.heap.size w v := by
  have h1 := heap_past (heap_alloc_last W (.cells c 82)) (.cells d 82)
  have h2 := heap_alloc_last (W.alloc (.cells c 82)) (.cells d 82)
  rw [World.size_alloc] at h2
  have h3 := setRow_heap _ W.heap.size _ (cellsOf (rowF w)) _ _ h1
  have h4 := heap_farRow h2 (b := W.heap.size) (by omega) (cellsOf (rowF w))
  have h5 := setRow_heap _ (W.heap.size + 1) _ (cellsOf (rowF v)) _ _ h4
  exact ⟨heap_farRow h3 (by omega) _, h5⟩

theorem two_drewN {W : World} {B w v : Nat} (h : TwoAt W B w v) (n : Nat) : TwoAt (W.drewN n) B w v := by
  unfold TwoAt at h ⊢
  rw [World.heap_drewN]
  exact h

set_option maxHeartbeats 2000000 in
set_option maxRecDepth 100000 in
theorem upTo_any (a w s f : Nat) (hw : w ≤ a) (ha : a ≤ 50) (hs : s ≤ 50) (hf : f ≤ s) (W : World) :
    Calls Try.prog 64 #[.int .i64 a, .int .i64 w, .int .i64 s, .int .i64 f] W fun e W' => e = .returned (.int .i64 (upN w (a - w) s (f + 1))) ∧ Below W.heap.size W W' := by
  obtain ⟨hz, hsz⟩ := zero_of_info zero_row
  have HS := Lib.hid hsz
  clear hsz
  go_enter Try.func64, Try.ntmps64
  go_wp2_with fail
  refine (choices_int _ (by omega) (by omega) _).mono ?_
  rintro e W1 ⟨rfl, hb1⟩
  go_wp2_with fail
  refine (choices_int _ (by omega) (by omega) _).mono ?_
  rintro e W2 ⟨rfl, hb2⟩
  have e2 : ((a : Int) - (w : Int)).toNat = a - w := by omega
  rw [e2]
  have hb := hb1.trans (hb2.mono hb1.size)
  have HB := Lib.hid hb
  clear hb1 hb2 hb e2
  have g1 := heap_past (heap_alloc_last W2 (.cells (cellsOf fun _ => 0) 82)) (.cells (cellsOf fun _ => 0) 82)
  have g2 := heap_alloc_last (W2.alloc (.cells (cellsOf fun _ => 0) 82)) (.cells (cellsOf fun _ => 0) 82)
  rw [World.size_alloc] at g2
  have g3 := heap_farRow g2 (b := W2.heap.size) (by omega) (cellsOf (rowF w))
  have hT := two_made W2 w (a - w) (cellsOf fun _ => 0) (cellsOf fun _ => 0)
  have hBB := below_setRow (below_setRow ((HB.out.alloc HB.out.size (.cells (cellsOf fun _ => 0) 82)).alloc (by have := HB.out.size; simp; omega) (.cells (cellsOf fun _ => 0) 82)) (g := W2.heap.size) HB.out.size (cellsOf (rowF w))) (g := W2.heap.size + 1) (by have := HB.out.size; omega) (cellsOf (rowF (a - w)))
  have HT := Lib.hid (And.intro hT hBB)
  clear hT hBB g2
  go_wp2_with (first | (refine wpList_store_rowTo rfl 82 (.tmp 9) (.tmp 14) rfl rfl W2.heap.size (cellsOf (rowF w)) rfl rfl 82 _ g1 HS.out rfl (cellsOf_one _) ?_) | (refine wpList_store_rowTo rfl 82 (.tmp 10) (.tmp 18) rfl rfl (W2.heap.size + 1) (cellsOf (rowF (a - w))) rfl rfl 82 _ g3 HS.out rfl (cellsOf_one _) ?_))
  clear g1 g3
  go_loopw [11, 21] (fun n j wr => ∃ k : Nat, k ≤ f + 1 ∧ j = .int .i64 k ∧ n = .int .i64 (upN w (a - w) s k) ∧ Hid (TwoAt wr W2.heap.size w (a - w) ∧ Below W.heap.size W wr)) (fun _ j _ => 60 - (intOf j).toNat)
  case atStart => exact ⟨0, by omega, rfl, rfl, HT.out⟩
  case round =>
    obtain ⟨k, hk, rfl, rfl, HR⟩ := hrel
    by_cases hlt : k < f + 1
    · have hm := term_le w (a - w) s k (by omega)
      have hu := upN_le w (a - w) s (k + 1) (by omega)
      have hbb := binom_le50 (w + (a - w)) s (by omega)
      have hss := upN_succ w (a - w) s k
      have c1 : wr.cell? ⟨W2.heap.size, k, none⟩ = some (.int .i64 (binom w k)) := by rw [cell_of_row wr _ k _ _ _ HR.out.1.1]; exact cellsOf_get _ _ (by omega)
      have c2 : wr.cell? ⟨W2.heap.size + 1, s - k, none⟩ = some (.int .i64 (binom (a - w) (s - k))) := by rw [cell_of_row wr _ (s - k) _ _ _ HR.out.1.2]; exact cellsOf_get _ _ (by omega)
      obtain ⟨x, hx⟩ : ∃ x : Nat, x = binom w k := ⟨_, rfl⟩
      obtain ⟨y, hy⟩ : ∃ y : Nat, y = binom (a - w) (s - k) := ⟨_, rfl⟩
      obtain ⟨u, hu1⟩ : ∃ u : Nat, u = upN w (a - w) s k := ⟨_, rfl⟩
      rw [← hx, ← hy] at hm hss
      rw [← hx] at c1
      rw [← hy] at c2
      rw [← hu1] at hss ⊢
      obtain ⟨z, hz'⟩ : ∃ z : Nat, z = x * y := ⟨_, rfl⟩
      have hzi : (x : Int) * (y : Int) = (z : Int) := by rw [hz', Int.natCast_mul]
      rw [← hz'] at hm hss
      have q0 : (0 : Int) ≤ (z : Int) := by omega
      have q1 : (z : Int) ≤ 1125899906842624 := by omega
      have q2 : (u : Int) + (z : Int) ≤ 1125899906842624 := by omega
      have q3 : (0 : Int) ≤ (u : Int) := by omega
      have HSS := Lib.hid hss
      clear hss hx hy hu1 hz' hm hu hbb
      have hl : (k : Int) < (f : Int) + 1 := by omega
      have w1 : IntKind.i64.wrap ((s : Int) - (k : Int)) = ((s - k : Nat) : Int) := by rw [IntWalk.i64_in _ (by omega)]; omega
      have w2 : IntKind.i64.wrap ((x : Int) * (y : Int)) = (z : Int) := by rw [hzi]; exact IntWalk.i64_in _ (by omega)
      have w3 : IntKind.i64.wrap ((u : Int) + (z : Int)) = (u : Int) + (z : Int) := IntWalk.i64_in _ (by omega)
      have n1 : ((s - k : Nat) : Int) < 51 := by omega
      have n2 : (k : Int) < 51 := by omega
      go_wp2
      go_quiet (fail)
      clear w1 w2 w3
      go_wp2
      go_roundw
      case rel => exact ⟨k + 1, by omega, by go_num, congrArg (Value.int IntKind.i64) (by rw [HSS.out, Int.natCast_add]), two_drewN HR.out.1 nq, below_drewN HR.out.2 nq⟩
      case measure => simp [intOf]; omega
    · have hl : ¬ (k : Int) < (f : Int) + 1 := by omega
      have hke : k = f + 1 := by omega
      have HK := Lib.hid hke
      clear hke
      go_wp2
      go_ret
      exact ⟨congrArg (fun t : Nat => Ending.returned (Value.int .i64 ((upN w (a - w) s t : Nat) : Int))) HK.out, HR.out.2⟩
end Go.Proofs.Ytmgdidhhgdpobaa.Hand
