/- Laws on whole rows of cells in a block: cleared, indexed, kept below a mark. -/
import Derived.WalkKit
import Derived.Laws.Rows
import Derived.Laws.Tables
import Derived.Deep.WholeRow
import Derived.Laws.IdiomCopy
import Derived.Lib.SliceRun
import Derived.ChangeKeysEq
import Derived.DeepKeys
import Derived.Laws.StructEq
namespace Go.Proofs.Ytmgdidhhgdpobaa.Hand
open Go.RowKit
section
variable {P : Program}

/-- cells laid one by one over a row -/
def ovr (cs : Array Value) : Nat → List Value → Array Value
  | _, [] => cs
  | o, v :: r => ovr (cs.setIfInBounds o v) (o + 1) r
theorem ovr_size : ∀ (vs : List Value) (cs : Array Value) (o : Nat), (ovr cs o vs).size = cs.size
  | [], _, _ => rfl
  | v :: r, cs, o => by rw [ovr, ovr_size r]; simp
theorem ovr_get : ∀ (vs : List Value) (cs : Array Value) (o j : Nat), o + vs.length ≤ cs.size → (ovr cs o vs)[j]? = if o ≤ j ∧ j < o + vs.length then vs[j - o]? else cs[j]?
  | [], cs, o, j, _ => by rw [ovr, if_neg (by simp)]
  | v :: r, cs, o, j, h => by
    rw [ovr, ovr_get r _ (o + 1) j (by simp at h ⊢; omega)]
    simp only [List.length_cons] at h ⊢
    by_cases h1 : o + 1 ≤ j ∧ j < o + 1 + r.length
    · rw [if_pos h1, if_pos (by omega), show j - o = (j - (o + 1)) + 1 by omega, List.getElem?_cons_succ]
    · rw [if_neg h1]
      by_cases h2 : j = o
      · subst h2
        rw [if_pos (by omega), Nat.sub_self, Array.getElem?_setIfInBounds, if_pos rfl, if_pos (by omega)]; rfl
      · rw [if_neg (by omega), Array.getElem?_setIfInBounds, if_neg (by omega)]
theorem setRow_same (w : World) (b : Nat) (cs : Array Value) (t : TypeId) (fr : Nat × Nat) (h : w.heap[b]? = some (.cells cs t fr)) : w.setRow b cs = w := by
  have hh : (w.setRow b cs).heap = w.heap := by
    apply Array.ext_getElem?
    intro i
    by_cases e : i = b
    · subst e; rw [setRow_heap w i cs cs t fr h, h]
    · rw [setRow_other w b i cs e]
  exact congrArg (fun x : Array Obj => ({ w with heap := x } : World)) hh
theorem setCells_row : ∀ (vs : List Value) (w : World) (b o : Nat) (cs : Array Value) (t : TypeId) (fr : Nat × Nat), w.heap[b]? = some (.cells cs t fr) → w.setCells b o vs = w.setRow b (ovr cs o vs)
  | [], w, b, o, cs, t, fr, h => (setRow_same w b cs t fr h).symm
  | v :: r, w, b, o, cs, t, fr, h => by
    rw [World.setCells, setCell_eq_setRow w b o cs t fr v h, setCells_row r _ b (o + 1) (cs.setIfInBounds o v) t fr (setRow_heap w b cs _ t fr h), setRow_setRow, ovr]

theorem run_clear_row (w : World) (t e ty : TypeId) (z : Value) (ht : P.underlying t = some (.slice e)) (hv : ∀ w, (zeroValue e).run P w = .ok z w) (hz : z.cells = #[z]) (h1 : z.oneCell' = true)
    (b n c : Nat) (hn : 0 < n) (cs : Array Value) (T : TypeId) (hb : w.heap[b]? = some (.cells cs T (0, 0))) (hs : cs.size = n) :
    (Builtin.clear_ #[t] ty #[.slice (some ⟨b, 0, none⟩) n c]).run P w = .ok (.tuple #[]) (w.setRow b (Array.replicate n z)) := by
  rw [Lib.run_clear_slice w t e ty z ht hv hz h1 b 0 n c hn (fun j hj => by rw [Nat.zero_add, cell_of_row w b j cs T (0, 0) hb, Array.getElem?_eq_getElem (by omega)]; rfl) (fun j hj => frozen_of_row w b _ cs T hb)]
  rw [setCells_row _ w b 0 cs T (0, 0) hb]
  congr 2
  apply Array.ext_getElem?
  intro j
  rw [ovr_get _ _ _ _ (by simp; omega)]
  by_cases h : j < n
  · rw [if_pos (by simp; omega)]
    simp [h]
  · rw [if_neg (by simp; omega), Array.getElem?_eq_none (by omega), Array.getElem?_eq_none (by simp; omega)]

theorem run_index_agg (w : World) {T E : TypeId} {n i : Nat} {k : IntKind} {cs : Array Value} {v : Value} (hu : P.underlying T = some (.array n E)) (he : P.plainKey E = true) (hc : P.cellsOf E = 1) (hi : i < n) (hv : cs[i]? = some v) :
    (Instr.index T (.agg cs) (.int k (i : Int))).run P w = .ok v w := by
  have hE : ∃ j, P.info? E = some j := by
    unfold Program.plainKey at he
    cases hq : P.underlying E with
    | none => simp [hq] at he
    | some d => exact info_of_underlying hq
  obtain ⟨j, hj⟩ := hE
  have h2 : ((0 : Int) ≤ (i : Int) ∧ (i : Int) < (n : Int)) := by omega
  simp only [Instr.index, asIntOf, run_underlying hu, Sem.run_bind, Sem.run_pure, Result.andThen_ok, if_pos h2, run_sizeOf w hj, hc, Int.toNat_natCast, Nat.mul_one]
  exact run_part_plain w he hv

theorem below_setRow {B : Nat} {a w : World} (h : Below B a w) {g : Nat} (hp : B ≤ g) (cs : Array Value) : Below B a (w.setRow g cs) :=
  h.trans ⟨rfl, rfl, rfl, by simp, fun k hk => setRow_other w g k cs (by omega)⟩
theorem heap_of_below {B : Nat} {a w : World} (h : Below B a w) {g : Nat} (hg : g < B) {o : Obj} (ho : a.heap[g]? = some o) : w.heap[g]? = some o := (h.block g hg).trans ho
theorem heap_lt {w : World} {g : Nat} {o : Obj} (h : w.heap[g]? = some o) : g < w.heap.size := (Array.getElem?_eq_some_iff.1 h).1
theorem heap_past {w : World} {g : Nat} {o : Obj} (h : w.heap[g]? = some o) (x : Obj) : (w.alloc x).heap[g]? = some o := (Below.heap_alloc w x g (heap_lt h)).trans h
theorem heap_far {w : World} {g : Nat} {o : Obj} (h : w.heap[g]? = some o) {a : Addr} (hn : g ≠ a.block) (v : Value) : (w.setCell a v).heap[g]? = some o := (heap_setCell_other w a g v hn).trans h
theorem heap_farRow {w : World} {g : Nat} {o : Obj} (h : w.heap[g]? = some o) {b : Nat} (hn : g ≠ b) (cs : Array Value) : (w.setRow b cs).heap[g]? = some o := (setRow_other w b g cs hn).trans h

/-- items of two arrays of whole numbers, compared -/
theorem run_eqItems_ints (w : World) (d : Nat) {e : TypeId} (he : P.underlying e = some (.int .i64)) (xs ys : Array Value) (f g : Nat → Int) : ∀ is : List Nat, (∀ i ∈ is, xs[i]? = some (.int .i64 (f i))) → (∀ i ∈ is, ys[i]? = some (.int .i64 (g i))) →
    (Op.eqItems (d + 1) e 1 xs ys is).run P w = .ok (is.all fun i => f i == g i) w
  | [], _, _ => by simp [Op.eqItems]
  | i :: is, hx, hy => by
    have hp : P.plainKey e = true := by simp [Program.plainKey, he]
    have h1 := run_part_plain (P := P) w hp (xs := xs) (off := i * 1) (by rw [Nat.mul_one]; exact hx i (by simp))
    have h2 := run_part_plain (P := P) w hp (xs := ys) (off := i * 1) (by rw [Nat.mul_one]; exact hy i (by simp))
    have ih := run_eqItems_ints w d he xs ys f g is (fun j hj => hx j (by simp [hj])) (fun j hj => hy j (by simp [hj]))
    have h3 := run_equalIn_int w d e .i64 .i64 (f i) (g i) he
    simp only [Op.eqItems, Sem.run_bind, h1, h2, h3, Result.andThen_ok, List.all_cons]
    cases f i == g i
    · simp
    · simpa using ih

/-- '==' of two arrays of whole numbers -/
theorem run_eql_array (w : World) {T e : TypeId} {n : Nat} (hu : P.underlying T = some (.array n e)) (he : P.underlying e = some (.int .i64)) (hc : P.cellsOf e = 1) (xs ys : Array Value) (f g : Nat → Int)
    (hx : ∀ i, i < n → xs[i]? = some (.int .i64 (f i))) (hy : ∀ i, i < n → ys[i]? = some (.int .i64 (g i))) :
    (binOp .eql T (.agg xs) (.agg ys)).run P w = .ok (.bool ((List.range n).all fun i => f i == g i)) w := by
  obtain ⟨i, hi⟩ := info_of_underlying he
  have h := run_equalIn_array w 9999 xs ys hu hi
  rw [hc, run_eqItems_ints w 9998 he xs ys f g _ (fun i hi => hx i (List.mem_range.1 hi)) (fun i hi => hy i (List.mem_range.1 hi))] at h
  simp only [binOp, Op.equal, Op.maxDepth, Sem.run_bind, h, Result.andThen_ok]
  rfl
end
end Go.Proofs.Ytmgdidhhgdpobaa.Hand
