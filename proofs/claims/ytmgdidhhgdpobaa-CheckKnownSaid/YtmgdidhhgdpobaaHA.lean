/- Texts of the claim, joined: HPlain, HRows, HChoices, HUpTo, HKind, HSamples. -/
import Derived.WalkKit
import Derived.Laws.Rows
import Derived.Laws.Tables
import Derived.Deep.WholeRow
import Derived.Laws.IdiomCopy
import Derived.Lib.SliceRun
import Derived.ChangeKeysEq
import Derived.DeepKeys
import Derived.Laws.StructEq
import Derived.Test.YtmgdidhhgdpobaaProg
import Derived.Lib.Hide
import Derived.Great.BuildSlice
import Derived.IntWalk
import Derived.WalkSmall
import Derived.Deep.QuietTactic
import Derived.BigQuiet
import Derived.DeepKeys4
import Derived.Maps.RangeWalk
import Derived.Maps.OwnSet
import Derived.StillTailTactics
import Derived.Carry
/- In how many ways so many can be chosen, and rows of such numbers: plain Lean. -/
namespace Go.Proofs.Ytmgdidhhgdpobaa.Hand
set_option linter.unusedVariables false
set_option linter.unusedSimpArgs false

def binom : Nat → Nat → Nat
  | _, 0 => 1
  | 0, _ + 1 => 0
  | n + 1, k + 1 => binom n k + binom n (k + 1)

theorem binom_zero (n : Nat) : binom n 0 = 1 := by cases n <;> rfl
theorem binom_succ (n k : Nat) : binom (n + 1) (k + 1) = binom n k + binom n (k + 1) := rfl
theorem binom_gt : ∀ (n k : Nat), n < k → binom n k = 0
  | 0, 0, h => absurd h (Nat.lt_irrefl 0)
  | 0, k + 1, _ => rfl
  | n + 1, 0, h => by omega
  | n + 1, k + 1, h => by rw [binom_succ, binom_gt n k (by omega), binom_gt n (k + 1) (by omega)]
theorem binom_pos : ∀ (n k : Nat), k ≤ n → 0 < binom n k
  | n, 0, _ => by rw [binom_zero]; exact Nat.one_pos
  | 0, k + 1, h => by omega
  | n + 1, k + 1, h => by rw [binom_succ]; have := binom_pos n k (by omega); omega
theorem binom_le : ∀ (n k : Nat), binom n k ≤ 2 ^ n
  | n, 0 => by rw [binom_zero]; exact Nat.one_le_two_pow
  | 0, k + 1 => by simp [binom]
  | n + 1, k + 1 => by
    rw [binom_succ, Nat.pow_succ]
    have := binom_le n k
    have := binom_le n (k + 1)
    omega
theorem binom_le50 (n k : Nat) (h : n ≤ 50) : binom n k ≤ 1125899906842624 :=
  Nat.le_trans (binom_le n k) (Nat.le_trans (Nat.pow_le_pow_right (by omega) h) (by decide))

/-- a row's cells -/
def cellsOf (f : Nat → Int) : Array Value := ((List.range 51).map fun j => Value.int .i64 (f j)).toArray
theorem cellsOf_size (f : Nat → Int) : (cellsOf f).size = 51 := by simp [cellsOf]
theorem cellsOf_get (f : Nat → Int) (j : Nat) (h : j < 51) : (cellsOf f)[j]? = some (.int .i64 (f j)) := by
  simp [cellsOf, List.getElem?_range h, h]
theorem cellsOf_one (f : Nat → Int) : (cellsOf f).all (·.oneCell') = true := by
  simp [cellsOf, Value.oneCell']
def upd (f : Nat → Int) (i : Nat) (v : Int) : Nat → Int := fun j => if j = i then v else f j
theorem cellsOf_set (f : Nat → Int) (i : Nat) (v : Int) : (cellsOf f).setIfInBounds i (.int .i64 v) = cellsOf (upd f i v) := by
  apply Array.ext_getElem?
  intro j
  by_cases hj : j < 51
  · rw [cellsOf_get _ _ hj, Array.getElem?_setIfInBounds]
    by_cases e : i = j
    · subst e
      rw [if_pos rfl, if_pos (by rw [cellsOf_size]; exact hj)]
      simp [upd]
    · rw [if_neg e, cellsOf_get _ _ hj]
      simp [upd, show ¬ j = i from fun h => e h.symm]
  · have h1 : (cellsOf (upd f i v)).size ≤ j := by rw [cellsOf_size]; omega
    have h2 : ((cellsOf f).setIfInBounds i (.int .i64 v)).size ≤ j := by rw [Array.size_setIfInBounds, cellsOf_size]; omega
    rw [Array.getElem?_eq_none h1, Array.getElem?_eq_none h2]
theorem cellsOf_ext {f g : Nat → Int} (h : ∀ j, j < 51 → f j = g j) : cellsOf f = cellsOf g := by
  unfold cellsOf
  congr 1
  exact List.map_congr_left fun j hj => by rw [h j (List.mem_range.1 hj)]

/-- the row of so many logs -/
def rowF (n : Nat) : Nat → Int := fun j => (binom n j : Int)
/-- a row on its way to the next one -/
def stepF (k i : Nat) : Nat → Int := fun j => (if j < i then (binom k j : Int) else 0) + (if 1 ≤ j ∧ j ≤ i then (binom k (j - 1) : Int) else 0)
theorem stepF_zero (k : Nat) : stepF k 0 = fun _ => 0 := by
  funext j
  simp only [stepF]
  rw [if_neg (by omega), if_neg (by omega)]; rfl
theorem stepF_at (k i : Nat) (h : i ≤ k) : stepF k i i = if 1 ≤ i then (binom k (i - 1) : Int) else 0 := by
  simp only [stepF]
  rw [if_neg (Nat.lt_irrefl i)]
  by_cases h1 : 1 ≤ i
  · rw [if_pos ⟨h1, Nat.le_refl i⟩, if_pos h1]; omega
  · rw [if_neg (by omega), if_neg h1]; rfl
theorem stepF_next (k i : Nat) : stepF k i (i + 1) = 0 := by
  simp only [stepF]
  rw [if_neg (by omega), if_neg (by omega)]; rfl
theorem stepF_succ (k i : Nat) : stepF k (i + 1) = upd (upd (stepF k i) i (stepF k i i + binom k i)) (i + 1) (stepF k i (i + 1) + binom k i) := by
  funext j
  simp only [upd]
  by_cases h1 : j = i + 1
  · subst h1
    rw [if_pos rfl, stepF_next]
    simp only [stepF]
    rw [if_neg (by omega), if_pos (by omega)]; simp
  · rw [if_neg h1]
    by_cases h2 : j = i
    · subst h2
      rw [if_pos rfl]
      simp only [stepF]
      rw [if_pos (by omega), if_neg (Nat.lt_irrefl j)]
      by_cases h3 : 1 ≤ j
      · rw [if_pos (by omega), if_pos (by omega)]; omega
      · rw [if_neg (by omega), if_neg (by omega)]; omega
    · rw [if_neg h2]
      simp only [stepF]
      by_cases h3 : j < i
      · rw [if_pos (by omega), if_pos h3]
        by_cases h4 : 1 ≤ j
        · rw [if_pos (by omega), if_pos (by omega)]
        · rw [if_neg (by omega), if_neg (by omega)]
      · rw [if_neg (by omega), if_neg h3, if_neg (by omega), if_neg (by omega)]
theorem stepF_end (k : Nat) : stepF k (k + 1) = rowF (k + 1) := by
  funext j
  simp only [stepF, rowF]
  cases j with
  | zero => rw [if_pos (by omega), if_neg (by omega), binom_zero, binom_zero]; rfl
  | succ j =>
    rw [binom_succ, Nat.add_sub_cancel]
    by_cases h1 : j + 1 < k + 1
    · rw [if_pos h1, if_pos (by omega)]; omega
    · rw [if_neg h1, binom_gt k (j + 1) (by omega)]
      by_cases h2 : j ≤ k
      · rw [if_pos (by omega)]; omega
      · rw [if_neg (by omega), binom_gt k j (by omega)]; rfl
theorem stepF_bound (k i j : Nat) (h : k ≤ 50) : 0 ≤ stepF k i j ∧ stepF k i j ≤ 2251799813685248 := by
  simp only [stepF]
  have h1 := binom_le50 k j h
  have h2 := binom_le50 k (j - 1) h
  split <;> split <;> omega
theorem rowF_zero : cellsOf (upd (fun _ => 0) 0 1) = cellsOf (rowF 0) := by
  apply cellsOf_ext
  intro j _
  cases j with
  | zero => simp [upd, rowF, binom]
  | succ j => simp [upd, rowF, binom]

/-- the samples in which fewer than so many wrong logs are found: w wrong ones, v others, s in a sample -/
def upN (w v s : Nat) : Nat → Nat
  | 0 => 0
  | t + 1 => upN w v s t + binom w t * binom v (s - t)
theorem upN_succ (w v s t : Nat) : upN w v s (t + 1) = upN w v s t + binom w t * binom v (s - t) := rfl
theorem upN_split (w v s : Nat) : ∀ t, upN (w + 1) v (s + 1) (t + 1) = upN w v (s + 1) (t + 1) + upN w v s t
  | 0 => by simp [upN, binom_zero]
  | t + 1 => by
    rw [upN_succ, upN_split w v s t, upN_succ w v (s + 1) (t + 1), upN_succ w v s t, binom_succ, Nat.add_mul, show s + 1 - (t + 1) = s - t by omega]
    omega
theorem upN_none (v s : Nat) : ∀ t, upN 0 v s (t + 1) = binom v s
  | 0 => by simp [upN, binom_zero]
  | t + 1 => by rw [upN_succ, upN_none v s t, show binom 0 (t + 1) = 0 from rfl]; simp
theorem upN_all : ∀ (w v s : Nat), upN w v s (s + 1) = binom (w + v) s
  | 0, v, s => by rw [upN_none, Nat.zero_add]
  | w + 1, v, 0 => by simp [upN, binom_zero]
  | w + 1, v, s + 1 => by rw [upN_split, upN_all w v (s + 1), upN_all w v s, show w + 1 + v = (w + v) + 1 by omega, binom_succ]; omega
theorem upN_mono (w v s : Nat) {t t' : Nat} (h : t ≤ t') : upN w v s t ≤ upN w v s t' := by
  induction h with
  | refl => exact Nat.le_refl _
  | step _ ih => exact Nat.le_trans ih (by rw [upN_succ]; omega)
theorem upN_le (w v s t : Nat) (h : t ≤ s + 1) : upN w v s t ≤ binom (w + v) s := by
  rw [← upN_all]; exact upN_mono w v s h
theorem term_le (w v s t : Nat) (h : t ≤ s) : binom w t * binom v (s - t) ≤ binom (w + v) s := by
  have h1 := upN_le w v s (t + 1) (by omega)
  rw [upN_succ] at h1; omega
end Go.Proofs.Ytmgdidhhgdpobaa.Hand

/- Laws on whole rows of cells in a block: cleared, indexed, kept below a mark. -/
namespace Go.Proofs.Ytmgdidhhgdpobaa.Hand
set_option linter.unusedVariables false
set_option linter.unusedSimpArgs false
open Go.RowKit
section
variable {P : Program}

/-- cells laid one by one over a row -/
def ovr (cs : Array Value) : Nat → List Value → Array Value
  | _, [] => cs
  | o, v :: r => ovr (cs.setIfInBounds o v) (o + 1) r
theorem ovr_size : ∀ (vs : List Value) (cs : Array Value) (o : Nat), (ovr cs o vs).size = cs.size
  | [], _, _ => rfl
  | v :: r, cs, o => by rw [ovr, ovr_size r]; simp
theorem ovr_get : ∀ (vs : List Value) (cs : Array Value) (o j : Nat), o + vs.length ≤ cs.size → (ovr cs o vs)[j]? = if o ≤ j ∧ j < o + vs.length then vs[j - o]? else cs[j]?
  | [], cs, o, j, _ => by rw [ovr, if_neg (by simp)]
  | v :: r, cs, o, j, h => by
    rw [ovr, ovr_get r _ (o + 1) j (by simp at h ⊢; omega)]
    simp only [List.length_cons] at h ⊢
    by_cases h1 : o + 1 ≤ j ∧ j < o + 1 + r.length
    · rw [if_pos h1, if_pos (by omega), show j - o = (j - (o + 1)) + 1 by omega, List.getElem?_cons_succ]
    · rw [if_neg h1]
      by_cases h2 : j = o
      · subst h2
        rw [if_pos (by omega), Nat.sub_self, Array.getElem?_setIfInBounds, if_pos rfl, if_pos (by omega)]; rfl
      · rw [if_neg (by omega), Array.getElem?_setIfInBounds, if_neg (by omega)]
theorem setRow_same (w : World) (b : Nat) (cs : Array Value) (t : TypeId) (fr : Nat × Nat) (h : w.heap[b]? = some (.cells cs t fr)) : w.setRow b cs = w := by
  have hh : (w.setRow b cs).heap = w.heap := by
    apply Array.ext_getElem?
    intro i
    by_cases e : i = b
    · subst e; rw [setRow_heap w i cs cs t fr h, h]
    · rw [setRow_other w b i cs e]
  exact congrArg (fun x : Array Obj => ({ w with heap := x } : World)) hh
theorem setCells_row : ∀ (vs : List Value) (w : World) (b o : Nat) (cs : Array Value) (t : TypeId) (fr : Nat × Nat), w.heap[b]? = some (.cells cs t fr) → w.setCells b o vs = w.setRow b (ovr cs o vs)
  | [], w, b, o, cs, t, fr, h => (setRow_same w b cs t fr h).symm
  | v :: r, w, b, o, cs, t, fr, h => by
    rw [World.setCells, setCell_eq_setRow w b o cs t fr v h, setCells_row r _ b (o + 1) (cs.setIfInBounds o v) t fr (setRow_heap w b cs _ t fr h), setRow_setRow, ovr]

theorem run_clear_row (w : World) (t e ty : TypeId) (z : Value) (ht : P.underlying t = some (.slice e)) (hv : ∀ w, (zeroValue e).run P w = .ok z w) (hz : z.cells = #[z]) (h1 : z.oneCell' = true)
    (b n c : Nat) (hn : 0 < n) (cs : Array Value) (T : TypeId) (hb : w.heap[b]? = some (.cells cs T (0, 0))) (hs : cs.size = n) :
    (Builtin.clear_ #[t] ty #[.slice (some ⟨b, 0, none⟩) n c]).run P w = .ok (.tuple #[]) (w.setRow b (Array.replicate n z)) := by
  rw [Lib.run_clear_slice w t e ty z ht hv hz h1 b 0 n c hn (fun j hj => by rw [Nat.zero_add, cell_of_row w b j cs T (0, 0) hb, Array.getElem?_eq_getElem (by omega)]; rfl) (fun j hj => frozen_of_row w b _ cs T hb)]
  rw [setCells_row _ w b 0 cs T (0, 0) hb]
  congr 2
  apply Array.ext_getElem?
  intro j
  rw [ovr_get _ _ _ _ (by simp; omega)]
  by_cases h : j < n
  · rw [if_pos (by simp; omega)]
    simp [h]
  · rw [if_neg (by simp; omega), Array.getElem?_eq_none (by omega), Array.getElem?_eq_none (by simp; omega)]

theorem run_index_agg (w : World) {T E : TypeId} {n i : Nat} {k : IntKind} {cs : Array Value} {v : Value} (hu : P.underlying T = some (.array n E)) (he : P.plainKey E = true) (hc : P.cellsOf E = 1) (hi : i < n) (hv : cs[i]? = some v) :
    (Instr.index T (.agg cs) (.int k (i : Int))).run P w = .ok v w := by
  have hE : ∃ j, P.info? E = some j := by
    unfold Program.plainKey at he
    cases hq : P.underlying E with
    | none => simp [hq] at he
    | some d => exact info_of_underlying hq
  obtain ⟨j, hj⟩ := hE
  have h2 : ((0 : Int) ≤ (i : Int) ∧ (i : Int) < (n : Int)) := by omega
  simp only [Instr.index, asIntOf, run_underlying hu, Sem.run_bind, Sem.run_pure, Result.andThen_ok, if_pos h2, run_sizeOf w hj, hc, Int.toNat_natCast, Nat.mul_one]
  exact run_part_plain w he hv

theorem below_setRow {B : Nat} {a w : World} (h : Below B a w) {g : Nat} (hp : B ≤ g) (cs : Array Value) : Below B a (w.setRow g cs) :=
  h.trans ⟨rfl, rfl, rfl, by simp, fun k hk => setRow_other w g k cs (by omega)⟩
theorem heap_of_below {B : Nat} {a w : World} (h : Below B a w) {g : Nat} (hg : g < B) {o : Obj} (ho : a.heap[g]? = some o) : w.heap[g]? = some o := (h.block g hg).trans ho
theorem heap_lt {w : World} {g : Nat} {o : Obj} (h : w.heap[g]? = some o) : g < w.heap.size := (Array.getElem?_eq_some_iff.1 h).1
theorem heap_past {w : World} {g : Nat} {o : Obj} (h : w.heap[g]? = some o) (x : Obj) : (w.alloc x).heap[g]? = some o := (Below.heap_alloc w x g (heap_lt h)).trans h
theorem heap_far {w : World} {g : Nat} {o : Obj} (h : w.heap[g]? = some o) {a : Addr} (hn : g ≠ a.block) (v : Value) : (w.setCell a v).heap[g]? = some o := (heap_setCell_other w a g v hn).trans h
theorem heap_farRow {w : World} {g : Nat} {o : Obj} (h : w.heap[g]? = some o) {b : Nat} (hn : g ≠ b) (cs : Array Value) : (w.setRow b cs).heap[g]? = some o := (setRow_other w b g cs hn).trans h

/-- items of two arrays of whole numbers, compared -/
theorem run_eqItems_ints (w : World) (d : Nat) {e : TypeId} (he : P.underlying e = some (.int .i64)) (xs ys : Array Value) (f g : Nat → Int) : ∀ is : List Nat, (∀ i ∈ is, xs[i]? = some (.int .i64 (f i))) → (∀ i ∈ is, ys[i]? = some (.int .i64 (g i))) →
    (Op.eqItems (d + 1) e 1 xs ys is).run P w = .ok (is.all fun i => f i == g i) w
  | [], _, _ => by simp [Op.eqItems]
  | i :: is, hx, hy => by
    have hp : P.plainKey e = true := by simp [Program.plainKey, he]
    have h1 := run_part_plain (P := P) w hp (xs := xs) (off := i * 1) (by rw [Nat.mul_one]; exact hx i (by simp))
    have h2 := run_part_plain (P := P) w hp (xs := ys) (off := i * 1) (by rw [Nat.mul_one]; exact hy i (by simp))
    have ih := run_eqItems_ints w d he xs ys f g is (fun j hj => hx j (by simp [hj])) (fun j hj => hy j (by simp [hj]))
    have h3 := run_equalIn_int w d e .i64 .i64 (f i) (g i) he
    simp only [Op.eqItems, Sem.run_bind, h1, h2, h3, Result.andThen_ok, List.all_cons]
    cases f i == g i
    · simp
    · simpa using ih

/-- '==' of two arrays of whole numbers -/
theorem run_eql_array (w : World) {T e : TypeId} {n : Nat} (hu : P.underlying T = some (.array n e)) (he : P.underlying e = some (.int .i64)) (hc : P.cellsOf e = 1) (xs ys : Array Value) (f g : Nat → Int)
    (hx : ∀ i, i < n → xs[i]? = some (.int .i64 (f i))) (hy : ∀ i, i < n → ys[i]? = some (.int .i64 (g i))) :
    (binOp .eql T (.agg xs) (.agg ys)).run P w = .ok (.bool ((List.range n).all fun i => f i == g i)) w := by
  obtain ⟨i, hi⟩ := info_of_underlying he
  have h := run_equalIn_array w 9999 xs ys hu hi
  rw [hc, run_eqItems_ints w 9998 he xs ys f g _ (fun i hi => hx i (List.mem_range.1 hi)) (fun i hi => hy i (List.mem_range.1 hi))] at h
  simp only [binOp, Op.equal, Op.maxDepth, Sem.run_bind, h, Result.andThen_ok]
  rfl
end
end Go.Proofs.Ytmgdidhhgdpobaa.Hand

/- The function choices comes to the row of so many logs. -/
namespace Go.Proofs.Ytmgdidhhgdpobaa.Hand
set_option linter.unusedVariables false
set_option linter.unusedSimpArgs false
open Go.RowKit

theorem zero_row : (Try.prog.info? 82).map (fun i => (i.zero, i.size)) = some (some (.agg (cellsOf fun _ => 0)), 51) := by kernel_rfl
theorem row_key : Try.prog.plainKey 2 = true := by kernel_rfl
theorem row_cells : Try.prog.cellsOf 2 = 1 := by kernel_rfl
theorem row_under : Try.prog.underlying 82 = some (.array 51 2) := by kernel_rfl
theorem zeros_replicate : Array.replicate 51 (Value.int .i64 0) = cellsOf fun _ => 0 := by
  apply Array.ext_getElem?
  intro j
  by_cases h : j < 51
  · rw [cellsOf_get _ _ h]; simp [h]
  · rw [Array.getElem?_eq_none (by simp; omega), Array.getElem?_eq_none (by rw [cellsOf_size]; omega)]

/-- what lies in memory at a round's head -/
def RowsAt (W : World) (B : Nat) (w : World) (k : Nat) : Prop :=
  W.heap[B]? = some (.cells (cellsOf fun _ => 0) 82 (0, 0)) ∧ W.heap[B + 1]? = some (.cells (cellsOf (rowF k)) 82 (0, 0)) ∧ Below B w W

/-- the same inside a round -/
def StepAt (W : World) (B : Nat) (w : World) (k i : Nat) : Prop :=
  W.heap[B]? = some (.cells (cellsOf fun _ => 0) 82 (0, 0)) ∧ W.heap[B + 1]? = some (.cells (cellsOf (stepF k i)) 82 (0, 0)) ∧ Below B w W
theorem StepAt.next {W : World} {B : Nat} {w : World} {k i : Nat} (h : StepAt W B w k i) :
    StepAt ((W.setCell ⟨B + 1, i, none⟩ (.int .i64 (stepF k i i + binom k i))).setCell ⟨B + 1, i + 1, none⟩ (.int .i64 (stepF k i (i + 1) + binom k i))) B w k (i + 1) := by
  refine ⟨heap_far (heap_far h.1 (by simp) _) (by simp) _, ?_, (h.2.2.setCell (by simp) _).setCell (by simp) _⟩
  have h1 := heap_setCell_same W (B + 1) i _ _ (.int .i64 (stepF k i i + binom k i)) h.2.1
  rw [cellsOf_set] at h1
  have h2 := heap_setCell_same _ (B + 1) (i + 1) _ _ (.int .i64 (stepF k i (i + 1) + binom k i)) h1
  rw [cellsOf_set, ← stepF_succ] at h2
  exact h2

set_option maxHeartbeats 2000000 in
set_option maxRecDepth 100000 in
theorem choices_any (n : Nat) (hn : n ≤ 50) (w : World) :
    Calls Try.prog 59 #[.int .i64 n] w fun e w' => e = .returned (.agg (cellsOf (rowF n))) ∧ Below w.heap.size w w' := by
  obtain ⟨hz, hs⟩ := zero_of_info zero_row
  have HS := Lib.hid hs
  clear hs
  go_enter Try.func59, Try.ntmps59
  go_wp2
  obtain ⟨B, hB⟩ : ∃ B, B = w.heap.size := ⟨_, rfl⟩
  go_loopw [9] (fun i wr => ∃ k : Nat, k ≤ n ∧ i = .int .i64 k ∧ RowsAt wr w.heap.size w k) (fun i _ => n - (intOf i).toNat)
  case atStart =>
    refine ⟨0, Nat.zero_le _, rfl, ?_, ?_, ?_⟩
    · exact heap_past (heap_alloc_last w _) _
    · have := heap_alloc_last (w.alloc (.cells (cellsOf fun x => 0) 82)) (Obj.cells ((cellsOf fun x => 0).setIfInBounds 0 (Value.int IntKind.i64 1)) 82)
      rw [World.size_alloc, cellsOf_set, rowF_zero] at this
      rw [cellsOf_set, rowF_zero]
      exact this
    · exact ((Below.refl _ _).alloc (Nat.le_refl _) _).alloc (by simp) _
  case round =>
    obtain ⟨k, hk, rfl, hR⟩ := hrel
    have HR := Lib.hid hR
    clear hR
    by_cases hlt : k < n
    · have hlt' : (k : Int) < (n : Int) := by omega
      have hh := HR.out.2.1
      have hh1 := heap_past hh (.cells (cellsOf (rowF k)) 82)
      have hst := run_storeCells_new (P := Try.prog) wr 82 (cellsOf fun _ => 0) (cellsOf (rowF k)) (by rw [cellsOf_size]; exact HS.out) (by rw [cellsOf_size, cellsOf_size]) (cellsOf_one _)
      have hcl : ∀ ty, (Builtin.clear_ #[105] ty #[.slice (some ⟨w.heap.size + 1, 0, none⟩) 51 51]).run Try.prog (wr.alloc (.cells (cellsOf (rowF k)) 82)) = .ok (.tuple #[]) ((wr.alloc (.cells (cellsOf (rowF k)) 82)).setRow (w.heap.size + 1) (cellsOf fun _ => 0)) := fun ty => by
        have := run_clear_row (P := Try.prog) (wr.alloc (.cells (cellsOf (rowF k)) 82)) 105 2 ty (.int .i64 0) Try.underlying105 (fun _ => by kernel_rfl) rfl rfl (w.heap.size + 1) 51 51 (by omega) _ _ hh1 (cellsOf_size _)
        rw [zeros_replicate] at this
        exact this
      have hlt1 := heap_lt hh
      have hh3 := setRow_heap (wr.alloc (.cells (cellsOf (rowF k)) 82)) (w.heap.size + 1) _ (cellsOf fun _ => 0) _ _ hh1
      have hh4 := heap_farRow (heap_alloc_last wr (.cells (cellsOf (rowF k)) 82)) (b := w.heap.size + 1) (by omega) (cellsOf fun _ => 0)
      have hh5 := heap_farRow (heap_past HR.out.1 (.cells (cellsOf (rowF k)) 82)) (b := w.heap.size + 1) (by omega) (cellsOf fun _ => 0)
      have hb5 := below_setRow (HR.out.2.2.alloc HR.out.2.2.size (.cells (cellsOf (rowF k)) 82)) (g := w.heap.size + 1) (by omega) (cellsOf fun _ => 0)
      clear hh1
      have HX := Lib.hid (And.intro hh3 (And.intro hh5 hb5))
      clear hh3 hh5 hb5
      go_wp2_with (first | (refine wpList_load_row rfl 82 (.tmp 3) rfl (w.heap.size + 1) rfl 82 (cellsOf (rowF k)) (0, 0) _ hh row_under rfl HS.out ?_) | (refine wpList_load_row rfl 82 (.tmp 4) rfl wr.heap.size rfl 82 (cellsOf (rowF k)) (0, 0) _ hh4 row_under rfl HS.out ?_))
      clear hh4 hst hcl hh
      obtain ⟨wo, rfl⟩ : ∃ wo : World, wo = wr := ⟨_, rfl⟩
      go_loopw [14] (fun j wr => ∃ i : Nat, i ≤ k + 1 ∧ j = .int .i64 i ∧ StepAt wr w.heap.size w k i) (fun j _ => 60 - (intOf j).toNat)
      case atStart =>
        have hx := HX.out
        rw [← stepF_zero k] at hx
        exact ⟨0, by omega, rfl, by rw [← stepF_zero k]; rw [stepF_zero k]; exact HX.out.2.1, by rw [stepF_zero k]; exact HX.out.1, HX.out.2.2⟩
      case round =>
        obtain ⟨i, hi, rfl, hS⟩ := hrel
        have HSt := Lib.hid hS
        clear hS
        obtain ⟨x, hx⟩ : ∃ x, x = (binom k i : Int) := ⟨_, rfl⟩
        have hix : ∀ w', (Instr.index 82 (.agg (cellsOf (rowF k))) (.int .i64 (i : Int))).run Try.prog w' = .ok (.int .i64 x) w' := fun w' => by
          rw [hx]; exact run_index_agg w' row_under row_key row_cells (by omega) (cellsOf_get _ _ (by omega))
        have hb0 : 0 ≤ x := by omega
        have hb1 : x ≤ 1125899906842624 := by have := binom_le50 k i (by omega); omega
        by_cases hik : i ≤ k
        · have hx0 : (x == 0) = false := beq_eq_false_iff_ne.2 (by have := binom_pos k i hik; omega)
          have c1 : wr.cell? ⟨w.heap.size + 1, i, none⟩ = some (.int .i64 (stepF k i i)) := by rw [cell_of_row wr _ i _ _ _ HSt.out.2.1]; exact cellsOf_get _ _ (by omega)
          have c2 : wr.cell? ⟨w.heap.size + 1, i + 1, none⟩ = some (.int .i64 (stepF k i (i + 1))) := by rw [cell_of_row wr _ (i + 1) _ _ _ HSt.out.2.1]; exact cellsOf_get _ _ (by omega)
          have f1 : wr.frozen? ⟨w.heap.size + 1, i, none⟩ = false := frozen_of_row wr _ i _ _ HSt.out.2.1
          have f2 : wr.frozen? ⟨w.heap.size + 1, i + 1, none⟩ = false := frozen_of_row wr _ (i + 1) _ _ HSt.out.2.1
          have b1 := stepF_bound k i i (by omega)
          have b2 := stepF_bound k i (i + 1) (by omega)
          have HN := Lib.hid HSt.out.next
          have HXX := Lib.hid hx
          rw [← hx] at HN
          clear hx
          obtain ⟨y1, hy1⟩ : ∃ y, y = stepF k i i := ⟨_, rfl⟩
          obtain ⟨y2, hy2⟩ : ∃ y, y = stepF k i (i + 1) := ⟨_, rfl⟩
          rw [← hy1] at c1 b1 HN
          rw [← hy2] at c2 b2 HN
          clear hy1 hy2
          obtain ⟨b1l, b1u⟩ := b1
          obtain ⟨b2l, b2u⟩ := b2
          go_wp2
          go_roundw
          case rel => exact ⟨i + 1, by omega, by go_num, HN.out⟩
          case measure => simp [intOf]; omega
        · have hx0 : (x == 0) = true := by rw [hx, binom_gt k i (by omega)]; rfl
          have HI : Hid (i = k + 1) := by show i = k + 1; omega
          clear hx hik
          go_wp2
          go_roundw
          case rel => exact ⟨k + 1, by omega, by go_num, HSt.out.1, by rw [← stepF_end, ← HI.out]; exact HSt.out.2.1, HSt.out.2.2⟩
          case measure => simp [intOf]; omega
    · have hke : k = n := by omega
      have HK := Lib.hid hke
      clear hke
      have hh := HR.out.2.1
      have hlt1 := heap_lt hh
      have hw := setRow_heap wr w.heap.size _ (cellsOf (rowF k)) _ _ HR.out.1
      go_wp2_with (first | (refine wpList_load_row rfl 82 (.tmp 3) rfl (w.heap.size + 1) rfl 82 (cellsOf (rowF k)) (0, 0) _ hh row_under rfl HS.out ?_) | (refine wpList_store_rowTo rfl 82 (.tmp 2) (.tmp 37) rfl rfl w.heap.size (cellsOf (rowF k)) rfl rfl 82 _ HR.out.1 HS.out rfl (cellsOf_one _) ?_))
      refine bodyPost_ret (v := .agg (cellsOf (rowF k))) ?_ rfl ⟨?_, ?_⟩
      · exact results_cell_row Try.results59 _ _ w.heap.size 82 (cellsOf (rowF k)) (0, 0) _ rfl hw row_under rfl HS.out
      · rw [HK.out]
      · exact below_setRow HR.out.2.2 (Nat.le_refl _) _

theorem choices_int (n : Int) (h0 : 0 ≤ n) (h1 : n ≤ 50) (w : World) :
    Calls Try.prog 59 #[.int .i64 n] w fun e w' => e = .returned (.agg (cellsOf (rowF n.toNat))) ∧ Below w.heap.size w w' := by
  obtain ⟨m, rfl⟩ := Int.eq_ofNat_of_zero_le h0
  rw [Int.toNat_natCast]
  exact choices_any m (by omega) w
end Go.Proofs.Ytmgdidhhgdpobaa.Hand

/- The function upTo comes to the number of samples in which at most so many wrong logs are found. -/
namespace Go.Proofs.Ytmgdidhhgdpobaa.Hand
set_option linter.unusedVariables false
set_option linter.unusedSimpArgs false
open Go.RowKit

/-- two rows in memory -/
def TwoAt (W : World) (B w v : Nat) : Prop :=
  W.heap[B]? = some (.cells (cellsOf (rowF w)) 82 (0, 0)) ∧ W.heap[B + 1]? = some (.cells (cellsOf (rowF v)) 82 (0, 0))
theorem two_made (W : World) (w v : Nat) (c d : Array Value) :
    TwoAt ((((W.alloc (.cells c 82)).alloc (.cells d 82)).setRow W.heap.size (cellsOf (rowF w))).setRow (W.heap.size + 1) (cellsOf (rowF v))) W.heap.size w v := by
  have h1 := heap_past (heap_alloc_last W (.cells c 82)) (.cells d 82)
  have h2 := heap_alloc_last (W.alloc (.cells c 82)) (.cells d 82)
  rw [World.size_alloc] at h2
  have h3 := setRow_heap _ W.heap.size _ (cellsOf (rowF w)) _ _ h1
  have h4 := heap_farRow h2 (b := W.heap.size) (by omega) (cellsOf (rowF w))
  have h5 := setRow_heap _ (W.heap.size + 1) _ (cellsOf (rowF v)) _ _ h4
  exact ⟨heap_farRow h3 (by omega) _, h5⟩

theorem two_drewN {W : World} {B w v : Nat} (h : TwoAt W B w v) (n : Nat) : TwoAt (W.drewN n) B w v := by
  unfold TwoAt at h ⊢
  rw [World.heap_drewN]
  exact h

set_option maxHeartbeats 2000000 in
set_option maxRecDepth 100000 in
theorem upTo_any (a w s f : Nat) (hw : w ≤ a) (ha : a ≤ 50) (hs : s ≤ 50) (hf : f ≤ s) (W : World) :
    Calls Try.prog 64 #[.int .i64 a, .int .i64 w, .int .i64 s, .int .i64 f] W fun e W' => e = .returned (.int .i64 (upN w (a - w) s (f + 1))) ∧ Below W.heap.size W W' := by
  obtain ⟨hz, hsz⟩ := zero_of_info zero_row
  have HS := Lib.hid hsz
  clear hsz
  go_enter Try.func64, Try.ntmps64
  go_wp2_with fail
  refine (choices_int _ (by omega) (by omega) _).mono ?_
  rintro e W1 ⟨rfl, hb1⟩
  go_wp2_with fail
  refine (choices_int _ (by omega) (by omega) _).mono ?_
  rintro e W2 ⟨rfl, hb2⟩
  have e2 : ((a : Int) - (w : Int)).toNat = a - w := by omega
  rw [e2]
  have hb := hb1.trans (hb2.mono hb1.size)
  have HB := Lib.hid hb
  clear hb1 hb2 hb e2
  have g1 := heap_past (heap_alloc_last W2 (.cells (cellsOf fun _ => 0) 82)) (.cells (cellsOf fun _ => 0) 82)
  have g2 := heap_alloc_last (W2.alloc (.cells (cellsOf fun _ => 0) 82)) (.cells (cellsOf fun _ => 0) 82)
  rw [World.size_alloc] at g2
  have g3 := heap_farRow g2 (b := W2.heap.size) (by omega) (cellsOf (rowF w))
  have hT := two_made W2 w (a - w) (cellsOf fun _ => 0) (cellsOf fun _ => 0)
  have hBB := below_setRow (below_setRow ((HB.out.alloc HB.out.size (.cells (cellsOf fun _ => 0) 82)).alloc (by have := HB.out.size; simp; omega) (.cells (cellsOf fun _ => 0) 82)) (g := W2.heap.size) HB.out.size (cellsOf (rowF w))) (g := W2.heap.size + 1) (by have := HB.out.size; omega) (cellsOf (rowF (a - w)))
  have HT := Lib.hid (And.intro hT hBB)
  clear hT hBB g2
  go_wp2_with (first | (refine wpList_store_rowTo rfl 82 (.tmp 9) (.tmp 14) rfl rfl W2.heap.size (cellsOf (rowF w)) rfl rfl 82 _ g1 HS.out rfl (cellsOf_one _) ?_) | (refine wpList_store_rowTo rfl 82 (.tmp 10) (.tmp 18) rfl rfl (W2.heap.size + 1) (cellsOf (rowF (a - w))) rfl rfl 82 _ g3 HS.out rfl (cellsOf_one _) ?_))
  clear g1 g3
  go_loopw [11, 21] (fun n j wr => ∃ k : Nat, k ≤ f + 1 ∧ j = .int .i64 k ∧ n = .int .i64 (upN w (a - w) s k) ∧ Hid (TwoAt wr W2.heap.size w (a - w) ∧ Below W.heap.size W wr)) (fun _ j _ => 60 - (intOf j).toNat)
  case atStart => exact ⟨0, by omega, rfl, rfl, HT.out⟩
  case round =>
    obtain ⟨k, hk, rfl, rfl, HR⟩ := hrel
    by_cases hlt : k < f + 1
    · have hm := term_le w (a - w) s k (by omega)
      have hu := upN_le w (a - w) s (k + 1) (by omega)
      have hbb := binom_le50 (w + (a - w)) s (by omega)
      have hss := upN_succ w (a - w) s k
      have c1 : wr.cell? ⟨W2.heap.size, k, none⟩ = some (.int .i64 (binom w k)) := by rw [cell_of_row wr _ k _ _ _ HR.out.1.1]; exact cellsOf_get _ _ (by omega)
      have c2 : wr.cell? ⟨W2.heap.size + 1, s - k, none⟩ = some (.int .i64 (binom (a - w) (s - k))) := by rw [cell_of_row wr _ (s - k) _ _ _ HR.out.1.2]; exact cellsOf_get _ _ (by omega)
      obtain ⟨x, hx⟩ : ∃ x : Nat, x = binom w k := ⟨_, rfl⟩
      obtain ⟨y, hy⟩ : ∃ y : Nat, y = binom (a - w) (s - k) := ⟨_, rfl⟩
      obtain ⟨u, hu1⟩ : ∃ u : Nat, u = upN w (a - w) s k := ⟨_, rfl⟩
      rw [← hx, ← hy] at hm hss
      rw [← hx] at c1
      rw [← hy] at c2
      rw [← hu1] at hss ⊢
      obtain ⟨z, hz'⟩ : ∃ z : Nat, z = x * y := ⟨_, rfl⟩
      have hzi : (x : Int) * (y : Int) = (z : Int) := by rw [hz', Int.natCast_mul]
      rw [← hz'] at hm hss
      have q0 : (0 : Int) ≤ (z : Int) := by omega
      have q1 : (z : Int) ≤ 1125899906842624 := by omega
      have q2 : (u : Int) + (z : Int) ≤ 1125899906842624 := by omega
      have q3 : (0 : Int) ≤ (u : Int) := by omega
      have HSS := Lib.hid hss
      clear hss hx hy hu1 hz' hm hu hbb
      have hl : (k : Int) < (f : Int) + 1 := by omega
      have w1 : IntKind.i64.wrap ((s : Int) - (k : Int)) = ((s - k : Nat) : Int) := by rw [IntWalk.i64_in _ (by omega)]; omega
      have w2 : IntKind.i64.wrap ((x : Int) * (y : Int)) = (z : Int) := by rw [hzi]; exact IntWalk.i64_in _ (by omega)
      have w3 : IntKind.i64.wrap ((u : Int) + (z : Int)) = (u : Int) + (z : Int) := IntWalk.i64_in _ (by omega)
      have n1 : ((s - k : Nat) : Int) < 51 := by omega
      have n2 : (k : Int) < 51 := by omega
      go_wp2
      go_quiet (fail)
      clear w1 w2 w3
      go_wp2
      go_roundw
      case rel => exact ⟨k + 1, by omega, by go_num, congrArg (Value.int IntKind.i64) (by rw [HSS.out, Int.natCast_add]), two_drewN HR.out.1 nq, below_drewN HR.out.2 nq⟩
      case measure => simp [intOf]; omega
    · have hl : ¬ (k : Int) < (f : Int) + 1 := by omega
      have hke : k = f + 1 := by omega
      have HK := Lib.hid hke
      clear hke
      go_wp2
      go_ret
      exact ⟨congrArg (fun t : Nat => Ending.returned (Value.int .i64 ((upN w (a - w) s t : Nat) : Int))) HK.out, HR.out.2⟩
end Go.Proofs.Ytmgdidhhgdpobaa.Hand

/- Keys that are a struct of one number. -/
namespace Go.Proofs.Ytmgdidhhgdpobaa.Hand
set_option linter.unusedVariables false
set_option linter.unusedSimpArgs false
open Go.RowKit Go.Maps

theorem laidOut : laidOutB Try.prog = true := by kernel_rfl
theorem kind_law : Keyed Try.prog 88 := Keyed.of_law (deep_law_laid laidOut (m := 3) (by omega) (of_decide_eq_true (by kernel_rfl)) (by kernel_rfl) (by kernel_rfl))
def kindKey (x : Int) : Lit := .string (keyBytes [.int .i64 x])
theorem kind_desc : (match Try.prog.underlying 88 with | some (.struct fs) => fs.size == 1 && (match fs[0]? with | some f => f.type == 3 && f.offset == 0 && f.name != "_" | _ => false) | _ => false) = true := by kernel_rfl
theorem kind_fields : ∃ f : Field, Try.prog.underlying 88 = some (.struct #[f]) ∧ f.type = 3 ∧ f.offset = 0 ∧ (f.name != "_") = true := by
  have h := kind_desc
  split at h
  · rename_i fs he
    rw [Bool.and_eq_true] at h
    obtain ⟨h1, h2⟩ := h
    have hs : fs.size = 1 := by simpa using h1
    split at h2
    · rename_i f hf
      simp only [Bool.and_eq_true, beq_iff_eq] at h2
      refine ⟨f, ?_, h2.1.1, h2.1.2, h2.2⟩
      have ha : fs = #[f] := by
        apply Array.ext
        · simpa using hs
        · intro i h1 h2
          have : i = 0 := by omega
          subst this
          simpa [Array.getElem?_eq_getElem h1] using hf
      exact he.trans (congrArg (fun a => some (TypeDesc.struct a)) ha)
    · cases h2
  · cases h
theorem kind_size : Try.prog.cellsOf 88 = 1 := by kernel_rfl
theorem kind_int_size : Try.prog.cellsOf 3 = 1 := by kernel_rfl
theorem kind_type : Try.prog.keyType 88 = true := by kernel_rfl
theorem kind_many : ∃ n, Try.prog.types.size = n + 1 := ⟨Try.prog.types.size - 1, by have : 88 < Try.prog.types.size := of_decide_eq_true (by kernel_rfl); omega⟩
theorem kind_lits (d : Nat) (cs : List Value) (ls : List Lit) : Try.prog.keyLits (d + 2) 88 cs = some ls ↔ ∃ x, cs = [.int .i64 x] ∧ (Lit.int .i64 x).wf = true ∧ ls = [.int .i64 x] := by
  obtain ⟨f, hf, ht, ho, hn⟩ := kind_fields
  unfold Program.keyLits
  rw [hf]
  simp only [kind_size]
  by_cases hl : cs.length = 1
  · obtain ⟨c, rfl⟩ := List.length_eq_one_iff.1 hl
    have hi : Try.prog.underlying 3 = some (.int .i64) := Try.underlying3
    simp only [hn, ht, ho, kind_int_size, List.length_cons, List.length_nil, Array.all_eq_true]
    simp [hn, ht, ho, kind_int_size]
    unfold Program.keyLits
    rw [hi]
    cases c <;> simp
    rename_i q a
    constructor
    · intro h
      by_cases hc : q = .i64 ∧ (Lit.int .i64 a).wf = true
      · obtain ⟨rfl, hw⟩ := hc
        simp [hw] at h
        exact ⟨_, ⟨rfl, rfl⟩, hw, h.symm⟩
      · simp [hc] at h
    · rintro ⟨x, ⟨rfl, rfl⟩, hw, rfl⟩
      simp [hw]
  · simp [hl]
    intro x hx
    subst hx
    simp at hl
theorem kind_key {x : Int} (hw : (Lit.int .i64 x).wf = true) : keyOf Try.prog 88 (.agg #[.int .i64 x]) = some (kindKey x) := by
  obtain ⟨f, hf, _⟩ := kind_fields
  obtain ⟨n, hn⟩ := kind_many
  have hl := (kind_lits n [.int .i64 x] [.int .i64 x]).2 ⟨x, rfl, hw, rfl⟩
  unfold keyOf
  rw [hf]
  simp [kind_type, Value.formed, hf, kind_size, hn, Value.cells, hl, kindKey]
theorem kind_inv {v : Value} {l : Lit} (h : keyOf Try.prog 88 v = some l) : ∃ x, v = .agg #[.int .i64 x] ∧ (Lit.int .i64 x).wf = true ∧ l = kindKey x := by
  obtain ⟨f, hf, _⟩ := kind_fields
  obtain ⟨n, hn⟩ := kind_many
  unfold keyOf at h
  rw [hf] at h
  simp only [kind_type, Bool.true_and] at h
  split at h
  · rename_i hfm
    obtain ⟨ls, hls, rfl⟩ := Option.map_eq_some_iff.1 h
    rw [hn] at hls
    obtain ⟨x, hx, hw, rfl⟩ := (kind_lits n _ _).1 hls
    cases v
    case agg cs =>
      refine ⟨x, ?_, hw, rfl⟩
      exact congrArg Value.agg (Array.ext' (by simpa [Value.cells] using hx))
    all_goals (simp [Value.formed, hf] at hfm)
  · cases h
theorem kindKey_inj {x y : Int} (hx : (Lit.int .i64 x).wf = true) (hy : (Lit.int .i64 y).wf = true) (h : kindKey x = kindKey y) : x = y := by
  have h1 := kind_key hx
  have h2 := kind_key hy
  rw [h] at h1
  have := kind_law.inj h1 h2
  simpa using this
theorem kindKey_is (x : Int) (hx : (Lit.int .i64 x).wf = true) : WideAt.IsKeyLit (kindKey x) := kind_law.key (kind_key hx)
end Go.Proofs.Ytmgdidhhgdpobaa.Hand

/- The function samples comes to a map from each number found to how many samples there are of this kind. -/
namespace Go.Proofs.Ytmgdidhhgdpobaa.Hand
set_option linter.unusedVariables false
set_option linter.unusedSimpArgs false
open Go.RowKit Go.Maps

theorem zero_int64 (w : World) : (zeroValue 2).run Try.prog w = .ok (.int .i64 0) w := by kernel_rfl
/-- a map tells how many -/
def Tells (D : DataW Unit) (T : Int → Int) : Prop := ∀ x : Int, (Lit.int .i64 x).wf = true → D.atKey (kindKey x) (.lit (.int .i64 0)) = .lit (.int .i64 (T x))
def MapAt (W : World) (b n : Nat) (T : Int → Int) : Prop := ∃ D : DataW Unit, W.ownsMap Try.prog 88 (plainElem Try.prog 2) b n D ∧ Tells D T
theorem two_grown {W W' : World} {B w v b : Nat} (h : TwoAt W B w v) (hg : W.grownBy W' (some b)) (hb : b ≠ B ∧ b ≠ B + 1) : TwoAt W' B w v :=
  ⟨(hg.block _ (heap_lt h.1) (fun e => hb.1 (Option.some.inj e).symm)).trans h.1, (hg.block _ (heap_lt h.2) (fun e => hb.2 (Option.some.inj e).symm)).trans h.2⟩
/-- of how many kinds it is told so far -/
def kinds (w v s k : Nat) : Int → Int := fun x => if 0 ≤ x ∧ x < k then ((binom w x.toNat * binom v (s - x.toNat) : Nat) : Int) else 0
theorem kinds_zero (w v s : Nat) (x : Int) : kinds w v s 0 x = 0 := by simp only [kinds]; rw [if_neg (by omega)]
theorem kinds_at (w v s k : Nat) (h : k ≤ s) : kinds w v s (s + 1) k = ((binom w k * binom v (s - k) : Nat) : Int) := by
  simp only [kinds]; rw [if_pos (by omega), Int.toNat_natCast]
theorem tells_empty (w v s : Nat) : Tells (.map []) (kinds w v s 0) := fun x _ => by rw [kinds_zero]; rfl
theorem wf_nat (k : Nat) (h : k ≤ 9223372036854775807) : (Lit.int .i64 (k : Int)).wf = true := WalkArith.wf_i64 (by omega)
theorem tells_put {D : DataW Unit} {w v s k : Nat} (hD : IsMap D) (hk : k ≤ 50) (h : Tells D (kinds w v s k)) :
    Tells (D.put (kindKey k) (.lit (.int .i64 ((binom w k * binom v (s - k) : Nat) : Int)))) (kinds w v s (k + 1)) := by
  intro x hx
  by_cases e : x = k
  · subst e
    rw [atKey_put_same hD (kindKey_is _ hx)]
    simp only [kinds]
    rw [if_pos (by omega), Int.toNat_natCast]
  · rw [atKey_put_other (fun h' => e (kindKey_inj hx (wf_nat k (by omega)) h')), h x hx]
    simp only [kinds]
    by_cases h1 : 0 ≤ x ∧ x < k
    · rw [if_pos h1, if_pos (by omega)]
    · rw [if_neg h1, if_neg (by omega)]
theorem tells_del {D : DataW Unit} {T : Int → Int} {x : Int} (hx : (Lit.int .i64 x).wf = true) (h : Tells D T) (h0 : T x = 0) : Tells (D.del (kindKey x)) T := by
  intro y hy
  by_cases e : y = x
  · subst e; rw [atKey_del_same, h0]
  · rw [atKey_del_other (fun h' => e (kindKey_inj hy hx h')), h y hy]

theorem row_ne (w : Nat) (W : World) : (binOp .eql 82 (.agg (cellsOf (rowF w))) (.agg (cellsOf fun _ => 0))).run Try.prog W = .ok (.bool false) W := by
  rw [run_eql_array W row_under Try.underlying2 row_cells _ _ (rowF w) (fun _ => 0) (fun i hi => cellsOf_get _ _ hi) (fun i hi => cellsOf_get _ _ hi)]
  have : ((List.range 51).all fun i => rowF w i == 0) = false := by
    rw [List.all_eq_false]
    exact ⟨0, by simp, by simp [rowF, binom_zero]⟩
  rw [this]

theorem built_row : Try.prog.built 82 [] = some (cellsOf fun _ => 0) := by kernel_rfl

set_option maxHeartbeats 2000000 in
set_option maxRecDepth 100000 in
theorem samples_any (a w s : Nat) (hw : w ≤ a) (ha : a ≤ 50) (hs : s ≤ a) (W : World) :
    Calls Try.prog 62 #[.int .i64 a, .int .i64 w, .int .i64 s] W fun e W' => (∃ b n, e = .returned (.map (some b)) ∧ MapAt W' b n (kinds w (a - w) s (s + 1))) ∧ Below W.heap.size W W' := by
  obtain ⟨hz, hsz⟩ := zero_of_info zero_row
  have HS := Lib.hid hsz
  clear hsz
  have hmm := @run_makeMap Try.prog
  have hne := row_ne w
  have hbd : ∀ W : World, (Instr.build 82 #[]).run Try.prog W = .ok (.agg (cellsOf fun _ => 0)) W := fun W => run_build W _ _ _ built_row
  go_enter Try.func62, Try.ntmps62
  go_wp2_with fail
  refine (choices_int _ (by omega) (by omega) _).mono ?_
  rintro e W1 ⟨rfl, hb1⟩
  go_wp2_with fail
  refine (choices_int _ (by omega) (by omega) _).mono ?_
  rintro e W2 ⟨rfl, hb2⟩
  have e2 : ((a : Int) - (w : Int)).toNat = a - w := by omega
  rw [e2]
  have hb := hb1.trans (hb2.mono hb1.size)
  have HB := Lib.hid hb
  clear hb1 hb2 hb e2
  have g1 := heap_past (heap_alloc_last W2 (.cells (cellsOf fun _ => 0) 82)) (.cells (cellsOf fun _ => 0) 82)
  have g2 := heap_alloc_last (W2.alloc (.cells (cellsOf fun _ => 0) 82)) (.cells (cellsOf fun _ => 0) 82)
  rw [World.size_alloc] at g2
  have g3 := heap_farRow g2 (b := W2.heap.size) (by omega) (cellsOf (rowF w))
  have hT := two_made W2 w (a - w) (cellsOf fun _ => 0) (cellsOf fun _ => 0)
  have hBB := below_setRow (below_setRow ((HB.out.alloc HB.out.size (.cells (cellsOf fun _ => 0) 82)).alloc (by have := HB.out.size; simp; omega) (.cells (cellsOf fun _ => 0) 82)) (g := W2.heap.size) HB.out.size (cellsOf (rowF w))) (g := W2.heap.size + 1) (by have := HB.out.size; omega) (cellsOf (rowF (a - w)))
  have HT := Lib.hid (And.intro hT hBB)
  clear hT hBB g2
  have g7 := heap_past HT.out.1.1 (.map #[] 0)
  have hn0 : ((s : Int) > (a : Int)) = False := by simp; omega
  have hl0 : (s : Int) ≤ (a : Int) := by omega
  go_wp2_with (first | ((with_reducible refine wpList_store_rowTo ?_ 82 (.tmp 7) (.tmp 14) ?_ ?_ W2.heap.size (cellsOf (rowF w)) ?_ ?_ 82 _ g1 ?_ ?_ (cellsOf_one _) ?_); rfl; rfl; rfl; rfl; rfl; exact HS.out; rfl) | ((with_reducible refine wpList_store_rowTo ?_ 82 (.tmp 8) (.tmp 18) ?_ ?_ (W2.heap.size + 1) (cellsOf (rowF (a - w))) ?_ ?_ 82 _ g3 ?_ ?_ (cellsOf_one _) ?_); rfl; rfl; rfl; rfl; rfl; exact HS.out; rfl) | ((with_reducible refine wpList_load_row ?_ 82 (.tmp 7) ?_ W2.heap.size ?_ 82 (cellsOf (rowF w)) (0, 0) _ g7 row_under ?_ ?_ ?_); rfl; rfl; rfl; rfl; exact HS.out))
  have hM0 : MapAt (((((W2.alloc (.cells (cellsOf fun _ => 0) 82)).alloc (.cells (cellsOf fun _ => 0) 82)).setRow W2.heap.size (cellsOf (rowF w))).setRow (W2.heap.size + 1) (cellsOf (rowF (a - w)))).alloc (.map #[] 0)) (W2.heap.size + 1 + 1) 0 (kinds w (a - w) s 0) := by
    have := World.ownsMap_made (H := Unit) ((((W2.alloc (.cells (cellsOf fun _ => 0) 82)).alloc (.cells (cellsOf fun _ => 0) 82)).setRow W2.heap.size (cellsOf (rowF w))).setRow (W2.heap.size + 1) (cellsOf (rowF (a - w)))) Try.prog 88 (plainElem Try.prog 2)
    rw [setRow_size, setRow_size, World.size_alloc, World.size_alloc] at this
    exact ⟨_, this, tells_empty _ _ _⟩
  have HM0 := Lib.hid hM0
  clear hM0 g1 g3 g7 hne hbd hmm hn0
  go_loopw [31] (fun j wr => ∃ k : Nat, k ≤ s + 1 ∧ j = .int .i64 k ∧ Hid (TwoAt wr W2.heap.size w (a - w) ∧ MapAt wr (W2.heap.size + 1 + 1) k (kinds w (a - w) s k) ∧ Below W.heap.size W wr)) (fun j _ => 60 - (intOf j).toNat)
  case atStart => exact ⟨0, by omega, rfl, ⟨heap_past HT.out.1.1 _, heap_past HT.out.1.2 _⟩, HM0.out, HT.out.2.alloc (by have := HB.out.size; simp; omega) _⟩
  case round =>
    obtain ⟨k, hk, rfl, HR⟩ := hrel
    by_cases hlt : k < s + 1
    · have hm := term_le w (a - w) s k (by omega)
      have hbb := binom_le50 (w + (a - w)) s (by omega)
      have c1 : wr.cell? ⟨W2.heap.size, k, none⟩ = some (.int .i64 (binom w k)) := by rw [cell_of_row wr _ k _ _ _ HR.out.1.1]; exact cellsOf_get _ _ (by omega)
      have c2 : wr.cell? ⟨W2.heap.size + 1, s - k, none⟩ = some (.int .i64 (binom (a - w) (s - k))) := by rw [cell_of_row wr _ (s - k) _ _ _ HR.out.1.2]; exact cellsOf_get _ _ (by omega)
      obtain ⟨D, hown, htell⟩ := HR.out.2.1
      have hput := tells_put hown.isMap (by omega) htell
      obtain ⟨x, hx⟩ : ∃ x : Nat, x = binom w k := ⟨_, rfl⟩
      obtain ⟨y, hy⟩ : ∃ y : Nat, y = binom (a - w) (s - k) := ⟨_, rfl⟩
      rw [← hx, ← hy] at hm hput
      rw [← hx] at c1
      rw [← hy] at c2
      obtain ⟨z, hz'⟩ : ∃ z : Nat, z = x * y := ⟨_, rfl⟩
      have hzi : (x : Int) * (y : Int) = (z : Int) := by rw [hz', Int.natCast_mul]
      rw [← hz'] at hm hput
      have hl : (k : Int) < (s : Int) + 1 := by omega
      have x1 : IntKind.i64.wrap ((s : Int) - (k : Int)) = ((s - k : Nat) : Int) := by rw [IntWalk.i64_in _ (by omega)]; omega
      have x2 : IntKind.i64.wrap ((x : Int) * (y : Int)) = (z : Int) := by rw [hzi]; exact IntWalk.i64_in _ (by omega)
      have n1 : ((s - k : Nat) : Int) < 51 := by omega
      have n2 : (k : Int) < 51 := by omega
      have q1 : (z : Int) ≤ 1125899906842624 := by omega
      have HP := Lib.hid (And.intro hown hput)
      clear hown htell hput hx hy hz' hm hbb hzi
      go_wp2
      go_still_tail 12, (by kernel_rfl)
      refine wpList_mapUpdate_own _ rfl _ _ _ 85 rfl 88 2 kind_law Try.underlying85 _ _ k _ rfl (World.ownsMap.drew HP.out.1) (by unfold maxLen; omega) _ _ _ rfl rfl (kind_key (wf_nat k (by omega))) _ [] (plainElem_int Try.underlying2 (WalkArith.wf_i64 (by omega))) ?_
      intro V1 hown1 hgrow1
      have H1 := Lib.hid (And.intro hown1 hgrow1)
      clear hown1 hgrow1 x1 x2
      go_wp2
      go_roundw
      case rel => exact ⟨k + 1, by omega, by go_num, two_grown (W := wr.drew) (b := W2.heap.size + 1 + 1) HR.out.1 H1.out.2 ⟨by omega, by omega⟩, ⟨_, H1.out.1, HP.out.2⟩, HR.out.2.2.drew.grown H1.out.2 HR.out.2.2.size (fun j e => by cases e; have := HB.out.size; omega)⟩
      case measure => simp [intOf]; omega
    · have hl : ¬ (k : Int) < (s : Int) + 1 := by omega
      have hke : k = s + 1 := by omega
      have hM1 := HR.out.2.1
      rw [show kinds w (a - w) s k = kinds w (a - w) s (s + 1) by rw [hke]] at hM1
      clear hke hlt
      obtain ⟨D, hown, htell⟩ := hM1
      have HTL := Lib.hid htell
      clear htell
      obtain ⟨wo, rfl⟩ : ∃ wo : World, wo = wr := ⟨_, rfl⟩
      have hne := (heap_lt HR.out.1.2)
      go_wp2_with (first | (at_range; refine wpList_range_own _ rfl _ 85 rfl 88 2 kind_law Try.underlying85 _ (W2.heap.size + 1 + 1) k _ rfl hown ?_; intro V0 hrg0 hg0 hs0))
      have HG := Lib.hid (And.intro hrg0 hg0)
      clear hrg0 hg0 hs0 hown
      go_loopw [12] (fun _ wr => ∃ (D : DataW Unit) (left : Lit → Bool) (cnt : Nat), Hid (wr.ranges Try.prog 88 (plainElem Try.prog 2) (W2.heap.size + 1 + 1) wo.heap.size k D left cnt ∧ Tells D (kinds w (a - w) s (s + 1)) ∧ Below W.heap.size W wr)) (fun _ wr => wr.rangeLeft (W2.heap.size + 1 + 1) wo.heap.size)
      case atStart => exact ⟨_, _, _, HG.out.1, HTL.out, HR.out.2.2.grown HG.out.2 HR.out.2.2.size (fun j e => by cases e)⟩
      case round =>
        obtain ⟨D1, left, cnt, HL⟩ := hrel
        have hrg := HL.out.1
        go_wp2_with (first | (at_next; refine wpList_next_ranges _ rfl _ rfl 88 kind_law (plainElem Try.prog 2) (fun x : Int => .agg #[.int .i64 x]) (Value.int .i64) (fun key kl hk => by obtain ⟨x, hx, _⟩ := kind_inv hk; exact ⟨x, hx⟩) (fun v y hv => by obtain ⟨c, hc, _⟩ := plainElem_int_inv Try.underlying2 hv; exact ⟨c, hc⟩) (W2.heap.size + 1 + 1) wo.heap.size k _ _ _ rfl hrg ?_ ?_))
        · intro _ _
          clear hrg
          go_wp2
          go_ret
          exact ⟨⟨_, _, rfl, _, HL.out.1.owns, HL.out.2.1⟩, HL.out.2.2⟩
        · intro x c kl y yp V2 cnt2 hkey hlk hval hat hrg1 hlt1 hg1 hs1 hen
          obtain ⟨x', ex, hwx, rfl⟩ := kind_inv hkey
          obtain rfl : x = x' := by simpa using ex
          obtain ⟨c', ec, hy, _⟩ := plainElem_int_inv Try.underlying2 hval
          obtain rfl : c = c' := by simpa using ec
          obtain ⟨rfl, rfl⟩ := Prod.mk.inj hy
          have hT : kinds w (a - w) s (s + 1) x = c := by
            have h1 := HL.out.2.1 x hwx
            rw [hat] at h1
            simpa using h1.symm
          have hg2 := HL.out.2.2.grown hg1 HL.out.2.2.size (fun j e => by cases e; exact HR.out.2.2.size)
          have HX := Lib.hid (And.intro hrg1 (And.intro hlt1 (And.intro hg2 hT)))
          have HWX := Lib.hid hwx
          clear hrg1 hlt1 hg2 hT hg1 hs1 hat hkey hval hwx ex ec hrg hlk
          cases hc : c == 0
          · have HC := Lib.hid hc
            go_wp2
            go_roundw
            case rel => exact ⟨D1, _, _, HX.out.1.alloc _, HL.out.2.1, HX.out.2.2.1.alloc HX.out.2.2.1.size _⟩
            case measure => rw [(HX.out.1.alloc _).left_eq, HL.out.1.left_eq]; exact HX.out.2.1
          · have HC := Lib.hid hc
            have hrg2 := HX.out.1.alloc (.cells #[.int .i64 x] 88)
            go_wp2_with (first | (at_delete; refine wpList_delete_ranges _ rfl _ _ 85 88 rfl 2 kind_law Try.underlying85 _ (W2.heap.size + 1 + 1) wo.heap.size k _ _ _ rfl hrg2 _ _ rfl (kind_key HWX.out) ?_; intro V3 cnt3 hrg3 hle3 hturn; have H3 := Lib.hid (And.intro hrg3 (And.intro hle3 hturn)); clear hrg3 hle3 hturn))
            go_roundw
            case rel => exact ⟨_, _, _, H3.out.1, tells_del HWX.out HL.out.2.1 (by rw [HX.out.2.2.2]; simpa using HC.out), (HX.out.2.2.1.alloc HX.out.2.2.1.size _).grown H3.out.2.2.grown (by have := HX.out.2.2.1.size; simp; omega) (fun j e => by cases e; have := HB.out.size; omega)⟩
            case measure => rw [H3.out.1.left_eq, HL.out.1.left_eq]; have := H3.out.2.1; have := HX.out.2.1; omega
end Go.Proofs.Ytmgdidhhgdpobaa.Hand
