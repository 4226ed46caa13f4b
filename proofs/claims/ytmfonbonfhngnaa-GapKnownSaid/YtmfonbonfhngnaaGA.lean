/- Texts of the claim, joined: HHeld, HRows, HTail, HList, HEnds, HOwn, HRound, HNet, HLinks, HFlow, HUse. -/
import Derived.Deep.Draws
import Derived.Deep.QuietTactic
import Derived.BigQuiet
import Derived.WalkKit
import Derived.Below
import Derived.Lib.Hide
import Derived.Test.YtmfonbonfhngnaaProg
import Derived.Laws.Rows
import Derived.Laws.Tables
import Derived.Deep.WholeRow
import Derived.Laws.IdiomCopy
import Derived.Lib.SliceRun
import Derived.ChangeKeysEq
import Derived.DeepKeys
import Derived.Laws.StructEq
import Derived.StillTail
import Derived.Deep.RegionHeld3
import Derived.DeepKeys4
import Derived.Maps.RangeWalk
import Derived.Maps.OwnSet
import Derived.Test.YtmfonbonfhngnaaHWithin
import Derived.ArgAppend
import Derived.Maps.AppendAt
import Derived.Laws.CopyOwn
import Derived.WalkMore
import Derived.Maps.OwnOps
import Derived.ScopeJumps
import Derived.OrdersIn
import Derived.RangeFuncCalls
import Derived.RangeFuncNested
import Derived.WideLaws
import Derived.Deep.DeepCutAuto
import Derived.Outline
import Derived.RangeFuncBound
import Derived.RangeFuncLeaves
import Derived.Shelf.Abstract
import Derived.Shelf.RegionOpen
import Derived.OwnWalkIn
import Derived.TacticsInMore
import Derived.LoopNIn
import Derived.LoopIn
import Derived.WideKeyEntry
/- A region that draws its order, whose operations read cells that stay, and whose callees make memory: one walk in the order of the text. -/
namespace Go.Proofs.Ytmfonbonfhngnaa.Hand
set_option linter.unusedVariables false
set_option linter.unusedSimpArgs false
open Go.RowKit

/-- the worlds in which all below a number is as in one world -/
def Kw (n : Nat) (w : World) : Type := {v : World // Below n w v}

instance (n : Nat) (w : World) : Nonempty (Kw n w) := ⟨⟨w, Below.refl n w⟩⟩

theorem wp_region_kept {P : Program} {id : Nat} {Q : Exit → Act → World → Prop} {a : Act} {w : World} {l : List Oper} (n : Nat) (w0 : World) (hm : P.follows .mixedOrders = true) (hB : Region.lexB .any l.toArray = true) (hb : Below n w0 w)
    (h : wpQuiet P l.toArray (fun w' => ∃ x : Kw n w0, w' = x.1) (fun a' => ∀ w', (∃ x : Kw n w0, w' = x.1) → Q .normal a' w') l a) : (Code.region id l.toArray true).wp P Q a w :=
  wp_region_quiet (C := fun w' => ∃ x : Kw n w0, w' = x.1) hm hB ⟨⟨_, hb.drew⟩, rfl⟩ (by simpa using h)

theorem kept_calls {P : Program} {n : Nat} {w0 : World} {f : FuncId} {args : Array Value} {v : Value} (x : Kw n w0) (hn : n ≤ w0.heap.size)
    (h : Calls P f args x.1 fun e w' => e = .returned v ∧ Below x.1.heap.size x.1 w') : Calls P f args x.1 fun e w'' => e = .returned v ∧ ∃ y : Kw n w0, w'' = y.1 :=
  h.mono fun _ w' ⟨h1, h2⟩ => ⟨h1, ⟨⟨w', x.2.trans (h2.mono (Nat.le_trans hn x.2.size))⟩, rfl⟩⟩

theorem kept_cell {n : Nat} {w0 : World} {p : Addr} {v : Value} (hp : p.block < n) (h : w0.cell? p = some v) : ∀ x : Kw n w0, x.1.cell? p = some v :=
  fun x => by rw [x.2.cell hp]; exact h
theorem cell_size {w : World} {p : Addr} {v : Value} (h : w.cell? p = some v) : p.block < w.heap.size := by
  rcases Nat.lt_or_ge p.block w.heap.size with g | g
  · exact g
  · exfalso; simp [World.cell?, Array.getElem?_eq_none g] at h
theorem kept_cell' {w0 : World} {p : Addr} {v : Value} (h : w0.cell? p = some v) : ∀ x : Kw w0.heap.size w0, x.1.cell? p = some v := kept_cell (cell_size h) h
end Go.Proofs.Ytmfonbonfhngnaa.Hand

/- Laws on whole rows of cells in a block: cleared, indexed, kept below a mark. -/
namespace Go.Proofs.Ytmfonbonfhngnaa.Hand
set_option linter.unusedVariables false
set_option linter.unusedSimpArgs false
open Go.RowKit
section
variable {P : Program}

/-- cells laid one by one over a row -/
def ovr (cs : Array Value) : Nat → List Value → Array Value
  | _, [] => cs
  | o, v :: r => ovr (cs.setIfInBounds o v) (o + 1) r
theorem ovr_size : ∀ (vs : List Value) (cs : Array Value) (o : Nat), (ovr cs o vs).size = cs.size
  | [], _, _ => rfl
  | v :: r, cs, o => by rw [ovr, ovr_size r]; simp
theorem ovr_get : ∀ (vs : List Value) (cs : Array Value) (o j : Nat), o + vs.length ≤ cs.size → (ovr cs o vs)[j]? = if o ≤ j ∧ j < o + vs.length then vs[j - o]? else cs[j]?
  | [], cs, o, j, _ => by rw [ovr, if_neg (by simp)]
  | v :: r, cs, o, j, h => by
    rw [ovr, ovr_get r _ (o + 1) j (by simp at h ⊢; omega)]
    simp only [List.length_cons] at h ⊢
    by_cases h1 : o + 1 ≤ j ∧ j < o + 1 + r.length
    · rw [if_pos h1, if_pos (by omega), show j - o = (j - (o + 1)) + 1 by omega, List.getElem?_cons_succ]
    · rw [if_neg h1]
      by_cases h2 : j = o
      · subst h2
        rw [if_pos (by omega), Nat.sub_self, Array.getElem?_setIfInBounds, if_pos rfl, if_pos (by omega)]; rfl
      · rw [if_neg (by omega), Array.getElem?_setIfInBounds, if_neg (by omega)]
theorem setRow_same (w : World) (b : Nat) (cs : Array Value) (t : TypeId) (fr : Nat × Nat) (h : w.heap[b]? = some (.cells cs t fr)) : w.setRow b cs = w := by
  have hh : (w.setRow b cs).heap = w.heap := by
    apply Array.ext_getElem?
    intro i
    by_cases e : i = b
    · subst e; rw [setRow_heap w i cs cs t fr h, h]
    · rw [setRow_other w b i cs e]
  exact congrArg (fun x : Array Obj => ({ w with heap := x } : World)) hh
theorem setCells_row : ∀ (vs : List Value) (w : World) (b o : Nat) (cs : Array Value) (t : TypeId) (fr : Nat × Nat), w.heap[b]? = some (.cells cs t fr) → w.setCells b o vs = w.setRow b (ovr cs o vs)
  | [], w, b, o, cs, t, fr, h => (setRow_same w b cs t fr h).symm
  | v :: r, w, b, o, cs, t, fr, h => by
    rw [World.setCells, setCell_eq_setRow w b o cs t fr v h, setCells_row r _ b (o + 1) (cs.setIfInBounds o v) t fr (setRow_heap w b cs _ t fr h), setRow_setRow, ovr]

theorem run_clear_row (w : World) (t e ty : TypeId) (z : Value) (ht : P.underlying t = some (.slice e)) (hv : ∀ w, (zeroValue e).run P w = .ok z w) (hz : z.cells = #[z]) (h1 : z.oneCell' = true)
    (b n c : Nat) (hn : 0 < n) (cs : Array Value) (T : TypeId) (hb : w.heap[b]? = some (.cells cs T (0, 0))) (hs : cs.size = n) :
    (Builtin.clear_ #[t] ty #[.slice (some ⟨b, 0, none⟩) n c]).run P w = .ok (.tuple #[]) (w.setRow b (Array.replicate n z)) := by
  rw [Lib.run_clear_slice w t e ty z ht hv hz h1 b 0 n c hn (fun j hj => by rw [Nat.zero_add, cell_of_row w b j cs T (0, 0) hb, Array.getElem?_eq_getElem (by omega)]; rfl) (fun j hj => frozen_of_row w b _ cs T hb)]
  rw [setCells_row _ w b 0 cs T (0, 0) hb]
  congr 2
  apply Array.ext_getElem?
  intro j
  rw [ovr_get _ _ _ _ (by simp; omega)]
  by_cases h : j < n
  · rw [if_pos (by simp; omega)]
    simp [h]
  · rw [if_neg (by simp; omega), Array.getElem?_eq_none (by omega), Array.getElem?_eq_none (by simp; omega)]

theorem run_index_agg (w : World) {T E : TypeId} {n i : Nat} {k : IntKind} {cs : Array Value} {v : Value} (hu : P.underlying T = some (.array n E)) (he : P.plainKey E = true) (hc : P.cellsOf E = 1) (hi : i < n) (hv : cs[i]? = some v) :
    (Instr.index T (.agg cs) (.int k (i : Int))).run P w = .ok v w := by
  have hE : ∃ j, P.info? E = some j := by
    unfold Program.plainKey at he
    cases hq : P.underlying E with
    | none => simp [hq] at he
    | some d => exact info_of_underlying hq
  obtain ⟨j, hj⟩ := hE
  have h2 : ((0 : Int) ≤ (i : Int) ∧ (i : Int) < (n : Int)) := by omega
  simp only [Instr.index, asIntOf, run_underlying hu, Sem.run_bind, Sem.run_pure, Result.andThen_ok, if_pos h2, run_sizeOf w hj, hc, Int.toNat_natCast, Nat.mul_one]
  exact run_part_plain w he hv

theorem below_setRow {B : Nat} {a w : World} (h : Below B a w) {g : Nat} (hp : B ≤ g) (cs : Array Value) : Below B a (w.setRow g cs) :=
  h.trans ⟨rfl, rfl, rfl, by simp, fun k hk => setRow_other w g k cs (by omega)⟩
theorem heap_of_below {B : Nat} {a w : World} (h : Below B a w) {g : Nat} (hg : g < B) {o : Obj} (ho : a.heap[g]? = some o) : w.heap[g]? = some o := (h.block g hg).trans ho
theorem heap_lt {w : World} {g : Nat} {o : Obj} (h : w.heap[g]? = some o) : g < w.heap.size := (Array.getElem?_eq_some_iff.1 h).1
theorem heap_past {w : World} {g : Nat} {o : Obj} (h : w.heap[g]? = some o) (x : Obj) : (w.alloc x).heap[g]? = some o := (Below.heap_alloc w x g (heap_lt h)).trans h
theorem heap_far {w : World} {g : Nat} {o : Obj} (h : w.heap[g]? = some o) {a : Addr} (hn : g ≠ a.block) (v : Value) : (w.setCell a v).heap[g]? = some o := (heap_setCell_other w a g v hn).trans h
theorem heap_farRow {w : World} {g : Nat} {o : Obj} (h : w.heap[g]? = some o) {b : Nat} (hn : g ≠ b) (cs : Array Value) : (w.setRow b cs).heap[g]? = some o := (setRow_other w b g cs hn).trans h

/-- items of two arrays of whole numbers, compared -/
theorem run_eqItems_ints (w : World) (d : Nat) {e : TypeId} (he : P.underlying e = some (.int .i64)) (xs ys : Array Value) (f g : Nat → Int) : ∀ is : List Nat, (∀ i ∈ is, xs[i]? = some (.int .i64 (f i))) → (∀ i ∈ is, ys[i]? = some (.int .i64 (g i))) →
    (Op.eqItems (d + 1) e 1 xs ys is).run P w = .ok (is.all fun i => f i == g i) w
  | [], _, _ => by simp [Op.eqItems]
  | i :: is, hx, hy => by
    have hp : P.plainKey e = true := by simp [Program.plainKey, he]
    have h1 := run_part_plain (P := P) w hp (xs := xs) (off := i * 1) (by rw [Nat.mul_one]; exact hx i (by simp))
    have h2 := run_part_plain (P := P) w hp (xs := ys) (off := i * 1) (by rw [Nat.mul_one]; exact hy i (by simp))
    have ih := run_eqItems_ints w d he xs ys f g is (fun j hj => hx j (by simp [hj])) (fun j hj => hy j (by simp [hj]))
    have h3 := run_equalIn_int w d e .i64 .i64 (f i) (g i) he
    simp only [Op.eqItems, Sem.run_bind, h1, h2, h3, Result.andThen_ok, List.all_cons]
    cases f i == g i
    · simp
    · simpa using ih

/-- '==' of two arrays of whole numbers -/
theorem run_eql_array (w : World) {T e : TypeId} {n : Nat} (hu : P.underlying T = some (.array n e)) (he : P.underlying e = some (.int .i64)) (hc : P.cellsOf e = 1) (xs ys : Array Value) (f g : Nat → Int)
    (hx : ∀ i, i < n → xs[i]? = some (.int .i64 (f i))) (hy : ∀ i, i < n → ys[i]? = some (.int .i64 (g i))) :
    (binOp .eql T (.agg xs) (.agg ys)).run P w = .ok (.bool ((List.range n).all fun i => f i == g i)) w := by
  obtain ⟨i, hi⟩ := info_of_underlying he
  have h := run_equalIn_array w 9999 xs ys hu hi
  rw [hc, run_eqItems_ints w 9998 he xs ys f g _ (fun i hi => hx i (List.mem_range.1 hi)) (fun i hi => hy i (List.mem_range.1 hi))] at h
  simp only [binOp, Op.equal, Op.maxDepth, Sem.run_bind, h, Result.andThen_ok]
  rfl
end
end Go.Proofs.Ytmfonbonfhngnaa.Hand

/- A region that draws its order: operations that are quiet in a class of worlds, and behind them all a few in one order. -/
namespace Go.Proofs.Ytmfonbonfhngnaa.Hand
set_option linter.unusedVariables false
set_option linter.unusedSimpArgs false
open Go.RowKit
section
variable {P : Program} {ops : Array Oper} {md : Region.Mode} {C : World → Prop}

/-- Whatever order is picked from here on, among the first n operations. -/
def headQ (P : Program) (md : Region.Mode) (ops : Array Oper) (C : World → Prop) (n : Nat) (L : Array Bool → Act → Prop) : Nat → Array Bool → Act → Prop
  | 0, listed, a => L listed a
  | f + 1, listed, a => Region.ready md ops listed ≠ [] ∧ ∀ i ∈ Region.ready md ops listed, i < n ∧ qOp P ops C i (headQ P md ops C n L f (listed.setIfInBounds i true)) a

theorem any_of_headQ {n g : Nat} {L : Array Bool → Act → Prop} {Q' : Exit → Act → World → Prop} (hL : ∀ listed a w, C w → L listed a → wpAny P md ops Q' g listed a w) :
    ∀ (f : Nat) (listed : Array Bool) (a : Act) (w : World), C w → headQ P md ops C n L f listed a → wpAny P md ops Q' (f + g) listed a w
  | 0, listed, a, w, hw, h => by rw [Nat.zero_add]; exact hL _ _ _ hw h
  | f + 1, listed, a, w, hw, h => by
    rw [show f + 1 + g = (f + g) + 1 by omega]
    exact ⟨fun h0 => absurd h0 h.1, fun i hi => wpOp_of_qOp hw (fun a' w' hw' h' => any_of_headQ hL f _ a' w' hw' h') (h.2 i hi).2⟩

theorem headQ_first {n i : Nat} {oi : Oper} {v : Value} {L : Array Bool → Act → Prop} (hi : ops[i]? = some oi) (hsel : ∀ (j : Nat) (o : Oper) cs b, ops[j]? = some o → o.op ≠ .select cs b)
    (hs : Region.sinkB md ops n = true) (hc : Region.chainB md ops n = true) (hn : n < ops.size) (hin : i < n)
    (hdone : ∀ listed a, L listed a → ∀ j ∈ Region.ready md ops listed, n ≤ j) :
    ∀ (f : Nat) (listed : Array Bool) (a : Act), HeadInv md ops n listed →
      (∀ j oj, ops[j]? = some oj → j ≠ i → listed.getD j true = false → (∀ e ∈ oj.after, Region.binds md e = true → e.on ≠ i) → oi.apart ops oj = true) →
      i ∈ Region.ready md ops listed → YieldsIn P ops C oi v a →
      headQ P md ops C n L f (listed.setIfInBounds i true) (a.put oi.dst v) → headQ P md ops C n L (f + 1) listed a := by
  intro f
  induction f with
  | zero =>
    intro listed a inv _ hr hy H
    have hun := (mem_ready.1 hr).1
    refine ⟨fun h => (by rw [h] at hr; cases hr), fun j hj => ?_⟩
    have hjn : j < n := by
      rcases Nat.lt_or_ge j n with h | h
      · exact h
      · exact absurd hj (tail_waits hs hc hn inv _ i rfl hin hun j h)
    refine ⟨hjn, ?_⟩
    by_cases hji : j = i
    · subst hji; exact hy.qOp hi H
    · have := hdone _ _ H j (ready_mono hj hji)
      omega
  | succ f ih =>
    intro listed a inv hfree hr hy H
    have hun := (mem_ready.1 hr).1
    refine ⟨fun h => (by rw [h] at hr; cases hr), fun j hj => ?_⟩
    have hjn : j < n := by
      rcases Nat.lt_or_ge j n with h | h
      · exact h
      · exact absurd hj (tail_waits hs hc hn inv _ i rfl hin hun j h)
    refine ⟨hjn, ?_⟩
    by_cases hji : j = i
    · subst hji; exact hy.qOp hi H
    · have h1 := (H.2 j (ready_mono hj hji)).2
      obtain ⟨hjun, oj, hoj, hall⟩ := mem_ready.1 hj
      have hnot : ∀ e ∈ oj.after, Region.binds md e = true → e.on ≠ i := fun e he hb heq => by
        have h1 := hall e he hb
        rw [heq, getD_both hun] at h1
        cases h1
      have h2 := qOp_put hoj (hfree j oj hoj hji hjun hnot) (fun cs b => hsel i oi cs b hi) (fun cs b => hsel j oj cs b hoj) hy h1
      have hfree' : ∀ k ok, ops[k]? = some ok → k ≠ i → (listed.setIfInBounds j true).getD k true = false →
          (∀ e ∈ ok.after, Region.binds md e = true → e.on ≠ i) → oi.apart ops ok = true := fun k ok hk hki hun hno => by
        refine hfree k ok hk hki ?_ hno
        by_cases hjk : j = k
        · subst hjk; exact hjun
        · rw [getD_set_ne true hjk] at hun; exact hun
      refine qOp_mono (fun a' h3 => ih (listed.setIfInBounds j true) a' (inv.set hj hjn) hfree' (ready_mono hr (Ne.symm hji)) h3.1 ?_) h2
      rw [Array.setIfInBounds_comm _ _ hji]
      exact h3.2

theorem headQ_lex {n g : Nat} {Lq : Act → Prop} (hsel : Region.noSelect ops = true) (hs : Region.sinkB md ops n = true) (hc : Region.chainB md ops n = true) (hn : n < ops.size) :
    ∀ (l : List Oper) (k : Nat) (listed : Array Bool) (a : Act), (∀ j, j < l.length → l[j]? = ops[k + j]?) → k + l.length = n → HeadInv md ops n listed →
    Region.lexHead md ops g l.length k listed = true → wpQuiet P ops C Lq l a →
    headQ P md ops C n (fun listed' a' => Region.seqB md ops g n listed' = true ∧ Lq a') l.length listed a
  | [], k, listed, a, _, hk, _, hB, h => by
    have : k = n := by simpa using hk
    subst this
    exact ⟨by simpa [Region.lexHead] using hB, h⟩
  | o :: l, k, listed, a, hl, hk, inv, hB, h => by
    have h0 : ops[k]? = some o := by simpa using (hl 0 (by simp)).symm
    simp only [List.length_cons, Region.lexHead, Bool.and_eq_true] at hB
    obtain ⟨⟨hr, hf⟩, hB'⟩ := hB
    have hkn : k < n := by simp only [List.length_cons] at hk; omega
    have hr' : k ∈ Region.ready md ops listed := by simpa using hr
    have hst : qOp P ops C k (wpQuiet P ops C Lq l) a := by unfold qOp; simp only [h0]; exact h
    obtain ⟨v, hy, hK⟩ := yieldsIn_of_qOp h0 hst
    exact headQ_first h0 (Region.noSelect_spec hsel) hs hc hn hkn (fun listed' a' hL => seqB_ready hL.1) l.length listed a inv (Region.free_spec h0 hf) hr' hy
      (headQ_lex hsel hs hc hn l (k + 1) _ _ (fun j hj => by have := hl (j + 1) (by simp; omega); simpa [Nat.add_assoc, Nat.add_comm 1 j] using this) (by simp only [List.length_cons] at hk; omega) (inv.set hr' hkn) hB' hK)

theorem wp_region_quiet_tail {id : Nat} {Q : Exit → Act → World → Prop} {a : Act} {w : World} {l : List Oper} (n : Nat) (hm : P.follows .mixedOrders = true) (hB : Region.lexTailB .any l.toArray n = true)
    (hC : C { w with drawn := w.drawn + 1 }) (h : wpQuiet P l.toArray C (fun a' => ∀ w', C w' → wpList P l.toArray Q (l.drop n) a' w') (l.take n) a) : (Code.region id l.toArray true).wp P Q a w := by
  simp only [Region.lexTailB, Bool.and_eq_true, decide_eq_true_eq] at hB
  obtain ⟨⟨⟨⟨hsel, hn⟩, hs⟩, hc⟩, hlex⟩ := hB
  have hn' : n < l.length := by simpa using hn
  have htl : (l.take n).length = n := by simp; omega
  have hdl : (l.drop n).length = l.toArray.size - n := by simp
  have inv0 : HeadInv .any l.toArray n (Array.replicate l.toArray.size false) :=
    ⟨by simp, fun j oj _ hl => (by rw [getD_replicate_false] at hl; cases hl), fun t _ ht => getD_in (by simpa using ht) (getD_replicate_false _ _)⟩
  have H := headQ_lex (md := .any) (g := l.toArray.size - n) hsel hs hc hn (l.take n) 0 _ a (fun j hj => by
    have hj' : j < n := by rw [htl] at hj; exact hj
    simp [hj']) (by simpa using htl) inv0 (by rw [htl]; exact hlex) h
  refine wp_region_any hm ?_
  have := any_of_headQ (Q' := Q) (g := l.toArray.size - n) (fun listed a' w' hw' hL => by
    have := wpAny_of_seq (md := .any) (Q' := Q) (l.drop n) n listed a' w' (fun j => by simp [List.getElem?_drop]) (by rw [hdl]; exact hL.1) (hL.2 w' hw')
    rwa [hdl] at this) _ _ _ _ hC H
  rw [htl, show n + (l.toArray.size - n) = l.toArray.size by omega] at this
  exact this
end
/-- The same, in the worlds in which all below a number is as in one world. -/
theorem wp_region_kept_tail {P : Program} {id : Nat} {Q : Exit → Act → World → Prop} {a : Act} {w : World} {l : List Oper} (n : Nat) (B : Nat) (w0 : World) (hm : P.follows .mixedOrders = true) (hB : Region.lexTailB .any l.toArray n = true) (hb : Below B w0 w)
    (h : wpQuiet P l.toArray (fun w' => ∃ x : Kw B w0, w' = x.1) (fun a' => ∀ w', (∃ x : Kw B w0, w' = x.1) → wpList P l.toArray Q (l.drop n) a' w') (l.take n) a) : (Code.region id l.toArray true).wp P Q a w :=
  wp_region_quiet_tail (C := fun w' => ∃ x : Kw B w0, w' = x.1) n hm hB ⟨⟨_, hb.drew⟩, rfl⟩ h
end Go.Proofs.Ytmfonbonfhngnaa.Hand

/- A region that draws its order, walked in one order: what is quiet first, calls one by one. -/
namespace Go.Proofs.Ytmfonbonfhngnaa.Hand
set_option linter.unusedVariables false
set_option linter.unusedSimpArgs false
open Go.RowKit
section
variable {P : Program} {md : Region.Mode} {S : World → Prop} {Q : Exit → Act → World → Prop}
theorem wp_region_held_list {l : List Oper} {k id : Nat} {a : Act} {w : World} (hk : l.length = k) (S : World → Prop) (hm : P.follows .mixedOrders = true)
    (h : wpAnyH P .any l.toArray Q S k (Array.replicate k false) a w.drew) : (Code.region id l.toArray true).wp P Q a w := by
  subst hk
  exact wp_region_held hm h
theorem held_now {w w' : World} (h : Below w.heap.size w w') {p : Addr} {v : Value} (hc : w.cell? p = some v) : w'.cell? p = some v := by rw [h.cell (cell_size hc)]; exact hc
theorem take_list {l : List Oper} {i : Nat} {oi : Oper} {v : Value} {fuel : Nat} {listed : Array Bool} {a : Act} {w : World} (hi : l[i]? = some oi)
    (hs : Region.noSelect l.toArray = true) (hf : Region.free md l.toArray listed i = true) (hr : (Region.ready md l.toArray listed).contains i = true) (hQ : ∀ c a w, Q (.panic c) (a.put oi.dst v) w → Q (.panic c) a w)
    (hw : Region.wanted oi (yielded l.toArray a.tmps) = true) (hy : ∀ w, S w → (execOp a.eval oi).run P w = .ok (.value v) w) (hS : S w)
    (h : wpAnyH P md l.toArray Q S fuel (listed.setIfInBounds i true) (a.put oi.dst v) w) : wpAnyH P md l.toArray Q S (fuel + 1) listed a w :=
  wpAnyH_take (by simpa using hi) hs hf hr hQ (Or.inl ⟨hw, hy⟩) hS h
theorem step_list {l : List Oper} {i : Nat} {o : Oper} {fuel : Nat} {listed : Array Bool} {a : Act} {w : World} (hr : Region.ready md l.toArray listed = [i]) (hi : l[i]? = some o) (hw : Region.wanted o (yielded l.toArray a.tmps) = true)
    (h : ∀ K : Act → World → Prop, (∀ a w, S w → wpAnyH P md l.toArray Q S fuel (listed.setIfInBounds i true) a w → K a w) → Oper.wp P o a w K Q) : wpAnyH P md l.toArray Q S (fuel + 1) listed a w :=
  wpAnyH_ready hr (by simp) (AllReadyH.cons (by simpa using hi) (fun K hK => by rw [if_pos hw]; exact h K (fun a w hS hh => hK a w hS (fun _ => hh))) AllReadyH.nil)
end
end Go.Proofs.Ytmfonbonfhngnaa.Hand

/- Keys that are a struct of two numbers. -/
namespace Go.Proofs.Ytmfonbonfhngnaa.Hand
set_option linter.unusedVariables false
set_option linter.unusedSimpArgs false
open Go.RowKit Go.Maps

theorem laidOut : laidOutB Try.prog = true := by kernel_rfl
theorem pair_law : Keyed Try.prog 84 := Keyed.of_law (deep_law_laid laidOut (m := 3) (by omega) (of_decide_eq_true (by kernel_rfl)) (by kernel_rfl) (by kernel_rfl))
def pairKey (x y : Int) : Lit := .string (keyBytes [.int .i64 x, .int .i64 y])
theorem pair_desc : (match Try.prog.underlying 84 with | some (.struct fs) => fs.size == 2 && ((match fs[0]? with | some f => f.type == 3 && f.offset == 0 && f.name != "_" | _ => false) && (match fs[1]? with | some f => f.type == 3 && f.offset == 1 && f.name != "_" | _ => false)) | _ => false) = true := by kernel_rfl
theorem pair_fields : ∃ f g : Field, Try.prog.underlying 84 = some (.struct #[f, g]) ∧ (f.type = 3 ∧ f.offset = 0 ∧ (f.name != "_") = true) ∧ (g.type = 3 ∧ g.offset = 1 ∧ (g.name != "_") = true) := by
  have h := pair_desc
  split at h
  · rename_i fs he
    rw [Bool.and_eq_true, Bool.and_eq_true] at h
    obtain ⟨h1, h2, h3⟩ := h
    have hs : fs.size = 2 := by simpa using h1
    split at h2
    · rename_i f hf
      split at h3
      · rename_i g hg
        simp only [Bool.and_eq_true, beq_iff_eq] at h2 h3
        refine ⟨f, g, ?_, ⟨h2.1.1, h2.1.2, h2.2⟩, ⟨h3.1.1, h3.1.2, h3.2⟩⟩
        have ha : fs = #[f, g] := by
          apply Array.ext
          · simpa using hs
          · intro i h1 h2
            have : i = 0 ∨ i = 1 := by omega
            rcases this with rfl | rfl
            · simpa [Array.getElem?_eq_getElem h1] using hf
            · simpa [Array.getElem?_eq_getElem h1] using hg
        exact he.trans (congrArg (fun a => some (TypeDesc.struct a)) ha)
      · cases h3
    · cases h2
  · cases h
theorem pair_size : Try.prog.cellsOf 84 = 2 := by kernel_rfl
theorem pair_int_size : Try.prog.cellsOf 3 = 1 := by kernel_rfl
theorem pair_type : Try.prog.keyType 84 = true := by kernel_rfl
theorem pair_many : ∃ n, Try.prog.types.size = n + 1 := ⟨Try.prog.types.size - 1, by have : 84 < Try.prog.types.size := of_decide_eq_true (by kernel_rfl); omega⟩
/-- a number as a key's part -/
def lit1 (c : Value) : Option (List Lit) := match c with | .int .i64 x => if (Lit.int .i64 x).wf = true then some [.int .i64 x] else none | _ => none
theorem lit1_some {c : Value} {l : List Lit} (h : lit1 c = some l) : ∃ x, c = .int .i64 x ∧ (Lit.int .i64 x).wf = true ∧ l = [.int .i64 x] := by
  unfold lit1 at h
  split at h
  · rename_i x
    split at h
    · rename_i hw
      exact ⟨x, rfl, hw, (Option.some.inj h).symm⟩
    · cases h
  · cases h
theorem lit1_int {x : Int} (h : (Lit.int .i64 x).wf = true) : lit1 (.int .i64 x) = some [.int .i64 x] := by simp [lit1, h]
theorem int_lits (d : Nat) (c : Value) : Try.prog.keyLits (d + 1) 3 [c] = lit1 c := by
  have hi : Try.prog.underlying 3 = some (.int .i64) := Try.underlying3
  unfold Program.keyLits lit1
  rw [hi]
  cases c <;> simp
  rename_i q a
  cases q <;> simp
theorem pair_lits (d : Nat) (cs : List Value) (ls : List Lit) : Try.prog.keyLits (d + 2) 84 cs = some ls ↔ ∃ x y, cs = [.int .i64 x, .int .i64 y] ∧ (Lit.int .i64 x).wf = true ∧ (Lit.int .i64 y).wf = true ∧ ls = [.int .i64 x, .int .i64 y] := by
  obtain ⟨f, g, hf, ⟨ht, ho, hn⟩, ⟨gt, go, gn⟩⟩ := pair_fields
  unfold Program.keyLits
  rw [hf]
  simp only [pair_size]
  by_cases hl : cs.length = 2
  · obtain ⟨c, c', rfl⟩ : ∃ c c', cs = [c, c'] := by
      match cs, hl with
      | [c, c'], _ => exact ⟨c, c', rfl⟩
    simp only [hn, ht, ho, gn, gt, go, pair_int_size, List.length_cons, List.length_nil, Array.all_eq_true]
    have hall : ∀ (i : Nat) (x : i < 2), ¬ ([f, g][i]).name = "_" := by
      intro i hi
      have : i = 0 ∨ i = 1 := by omega
      rcases this with rfl | rfl
      · simpa using hn
      · simpa using gn
    simp [hn, ht, ho, gn, gt, go, pair_int_size, int_lits]
    constructor
    · intro h
      replace h := h.2
      cases hc : lit1 c
      · rw [hc] at h; simp at h
      · cases hc' : lit1 c'
        · rw [hc, hc'] at h; simp at h
        · rw [hc, hc'] at h
          obtain ⟨x, rfl, hx, rfl⟩ := lit1_some hc
          obtain ⟨y, rfl, hy, rfl⟩ := lit1_some hc'
          simp at h
          exact ⟨x, y, ⟨rfl, rfl⟩, hx, hy, h.symm⟩
    · rintro ⟨x, y, ⟨rfl, rfl⟩, h1, h2, rfl⟩
      refine ⟨hall, ?_⟩
      rw [lit1_int h1, lit1_int h2]; simp
  · simp [hl]
    intro x y hx
    subst hx
    simp at hl
theorem pair_key {x y : Int} (hw : (Lit.int .i64 x).wf = true) (hv : (Lit.int .i64 y).wf = true) : keyOf Try.prog 84 (.agg #[.int .i64 x, .int .i64 y]) = some (pairKey x y) := by
  obtain ⟨f, g, hf, _⟩ := pair_fields
  obtain ⟨n, hn⟩ := pair_many
  have hl := (pair_lits n [.int .i64 x, .int .i64 y] [.int .i64 x, .int .i64 y]).2 ⟨x, y, rfl, hw, hv, rfl⟩
  unfold keyOf
  rw [hf]
  simp [pair_type, Value.formed, hf, pair_size, hn, Value.cells, hl, pairKey]
theorem pair_inv {v : Value} {l : Lit} (h : keyOf Try.prog 84 v = some l) : ∃ x y, v = .agg #[.int .i64 x, .int .i64 y] ∧ (Lit.int .i64 x).wf = true ∧ (Lit.int .i64 y).wf = true ∧ l = pairKey x y := by
  obtain ⟨f, g, hf, _⟩ := pair_fields
  obtain ⟨n, hn⟩ := pair_many
  unfold keyOf at h
  rw [hf] at h
  simp only [pair_type, Bool.true_and] at h
  split at h
  · rename_i hfm
    obtain ⟨ls, hls, rfl⟩ := Option.map_eq_some_iff.1 h
    rw [hn] at hls
    obtain ⟨x, y, hx, hw, hv, rfl⟩ := (pair_lits n _ _).1 hls
    cases v
    case agg cs =>
      refine ⟨x, y, ?_, hw, hv, rfl⟩
      exact congrArg Value.agg (Array.ext' (by simpa [Value.cells] using hx))
    all_goals (simp [Value.formed, hf] at hfm)
  · cases h
theorem pairKey_inj {x y x' y' : Int} (hx : (Lit.int .i64 x).wf = true) (hy : (Lit.int .i64 y).wf = true) (hx' : (Lit.int .i64 x').wf = true) (hy' : (Lit.int .i64 y').wf = true) (h : pairKey x y = pairKey x' y') : x = x' ∧ y = y' := by
  have h1 := pair_key hx hy
  have h2 := pair_key hx' hy'
  rw [h] at h1
  have := pair_law.inj h1 h2
  simpa using this
theorem pairKey_is (x y : Int) (hx : (Lit.int .i64 x).wf = true) (hy : (Lit.int .i64 y).wf = true) : WideAt.IsKeyLit (pairKey x y) := pair_law.key (pair_key hx hy)

end Go.Proofs.Ytmfonbonfhngnaa.Hand

/- Slices that a walk owns: appended to, made, copied; one or two numbers as the arguments of within. -/
namespace Go.Proofs.Ytmfonbonfhngnaa.Hand
set_option linter.unusedVariables false
set_option linter.unusedSimpArgs false
open Go.RowKit Go.Maps Go.Proofs.YtmfonbonfhngnaaW.PrintWords Go.Proofs.YtmfonbonfhngnaaW.PrintLast Go.Proofs.YtmfonbonfhngnaaW.PrintMore

theorem reads1 (w : World) (x : Int) : Kd.C (Kd.int .i64) (w.alloc (.cells #[.int .i64 x] 2)) (some ⟨w.heap.size, 0, none⟩) [x].length [x] :=
  Kd.C_of_reads (d := (0 : Int)) (h1 := fun _ => rfl) ⟨rfl, by simp, fun _ => ⟨_, rfl, fun j hj => by
    obtain rfl : j = 0 := by simpa using hj
    rw [add_plain]; simp⟩⟩
theorem reads2 (w : World) (x y : Int) : Kd.C (Kd.int .i64) (w.alloc (.cells #[.int .i64 x, .int .i64 y] 2)) (some ⟨w.heap.size, 0, none⟩) [x, y].length [x, y] :=
  Kd.C_of_reads (d := (0 : Int)) (h1 := fun _ => rfl) ⟨rfl, by simp, fun _ => ⟨_, rfl, fun j hj => by
    have : j = 0 ∨ j = 1 := by simp at hj; omega
    rw [add_plain]
    rcases this with rfl | rfl <;> simp⟩⟩
theorem out_in {lo hi n : Int} (h : outB lo hi n = false) : lo ≤ n ∧ n ≤ hi := by
  simp only [outB, Bool.or_eq_false_iff, decide_eq_false_iff_not] at h; omega
theorem out_iff (lo hi n : Int) : outB lo hi n = !decide (lo ≤ n ∧ n ≤ hi) := by
  simp only [outB]
  by_cases h1 : n < lo <;> by_cases h2 : hi < n <;> simp [h1, h2] <;> omega
/-- within, told: a world more -/
theorem within1 (lo hi x : Int) (w : World) : Calls Try.prog 51 #[.int .i64 lo, .int .i64 hi, .slice (some ⟨w.heap.size, 0, none⟩) 1 1] (w.alloc (.cells #[.int .i64 x] 2))
    fun e w' => e = .returned (.bool (!outB lo hi x)) ∧ Below w.heap.size w w' := by
  refine (gap_within.calls lo hi _ 1 [x] _ _ (reads1 w x) (Nat.le_refl _) rfl).mono ?_
  rintro e w' ⟨rfl, hb⟩
  exact ⟨by simp, ((Below.refl _ _).alloc (Nat.le_refl _) _).trans (hb.mono (by simp))⟩
theorem within2 (lo hi x y : Int) (w : World) : Calls Try.prog 51 #[.int .i64 lo, .int .i64 hi, .slice (some ⟨w.heap.size, 0, none⟩) 2 2] (w.alloc (.cells #[.int .i64 x, .int .i64 y] 2))
    fun e w' => e = .returned (.bool (!(outB lo hi x || outB lo hi y))) ∧ Below w.heap.size w w' := by
  refine (gap_within.calls lo hi _ 2 [x, y] _ _ (reads2 w x y) (Nat.le_refl _) rfl).mono ?_
  rintro e w' ⟨rfl, hb⟩
  exact ⟨by simp, ((Below.refl _ _).alloc (Nat.le_refl _) _).trans (hb.mono (by simp))⟩

theorem run_cut3 {P : Program} (w : World) (t e : TypeId) (ht : P.underlying t = some (.slice e)) {i : TypeInfo} (hi : P.info? e = some i) (ao : Option Addr) (n cap : Nat) (h : n ≤ cap) :
    (Instr.slice t (.slice ao n cap) none (some (.int .i64 (n : Int))) (some (.int .i64 (n : Int)))).run P w = .ok (.slice ao n n) w := by
  have hel : P.elem t = e := by simp [Program.elem, ht]
  have hu : P.underlying t = some (.slice (P.elem t)) := by rw [hel]; exact ht
  rw [run_slice_hm w t ao n cap hu .i64 .i64 n n (by omega) (by omega) (by omega), hel]
  have : ∀ a : Addr, a.add 0 = a := fun a => rfl
  simp [sizeOf, typeInfo, hi, sliced, Result.andThen, this]
theorem own_out {w : World} {base n : Nat} {e : TypeId} {k : IntKind} {v : Value} {xs : List Int} (h : w.ownsRow base e 1 v n (nums k xs)) :
    ∃ A c, v = .slice A xs.length c ∧ xs.length ≤ c ∧ (A = none → xs.length = 0 ∧ c = 0) ∧ ReadsInt w k A xs.length xs := by
  have hl : xs.length = n := by have := h.1; simp [nums] at this; exact this
  obtain ⟨A, c, rfl, hr⟩ := own_reads h
  rw [hl]
  refine ⟨A, c, rfl, ?_, ?_, hr⟩
  · rcases h.2 with ⟨hv, h0⟩ | ⟨g, cap, cur, hv, _, _, hc, _⟩
    · omega
    · cases hv; exact hc
  · rintro rfl
    rcases h.2 with ⟨hv, h0⟩ | ⟨g, cap, cur, hv, _⟩
    · cases hv; exact ⟨rfl, rfl⟩
    · cases hv
theorem reads_cells {w : World} {k : IntKind} {ao : Option Addr} {xs : List Int} (h : ReadsInt w k ao xs.length xs) (b : Addr) (hb : ao = some b) : ∀ j u, (nums k xs)[j]? = some u → w.cell? (b.add j) = some u := by
  intro j u hu
  have hj : j < xs.length := by
    have := (List.getElem?_eq_some_iff.1 hu).1
    simpa [nums] using this
  obtain ⟨ad, e, hc⟩ := h.2.2 (by omega)
  rw [hb] at e
  cases e
  rw [hc j hj]
  simpa [nums, hj, List.getD_eq_getElem?_getD] using hu
theorem own_block {w : World} {base e size g n cap : Nat} {xs : List Value} (h : w.ownsRow base e size (.slice (some ⟨g, 0, none⟩) n cap) n xs) : ∃ cur : Array Value, w.heap[g]? = some (.cells cur.toList.toArray e (0, 0)) ∧ cur.size = cap * size := by
  rcases h.2 with ⟨hv, _⟩ | ⟨g', cap', cur, hv, _, hh, _, _, hc, _⟩
  · cases hv
  · cases hv; exact ⟨cur, by simpa using hh, hc⟩
theorem below_of_grown {w w1 : World} (h : w.grownBy w1 none) : Below w.heap.size w w1 := (Below.refl _ _).grown h (Nat.le_refl _) (fun j e => by cases e)
theorem reads_some {w : World} {k : IntKind} {ao : Option Addr} {xs : List Int} (h : ReadsInt w k ao xs.length xs) (hp : 0 < xs.length) : ∃ ad, ao = some ad ∧ ∀ j u, (nums k xs)[j]? = some u → w.cell? (ad.add j) = some u := by
  obtain ⟨ad, e, _⟩ := h.2.2 hp
  exact ⟨ad, e, reads_cells h ad e⟩
theorem nums_min (k : IntKind) (xs : List Int) : (nums k xs).length = Nat.min xs.length xs.length := by rw [show (nums k xs).length = xs.length by simp [nums]]; exact (Nat.min_self _).symm
theorem nums_one (k : IntKind) (xs : List Int) : ∀ v ∈ nums k xs, v.oneCell' = true := by simp [nums, Value.oneCell']
theorem own_copied {w : World} {base e g : Nat} {k : IntKind} {cur : List Value} {xs : List Int} (h : w.heap[g]? = some (.cells (splice cur 0 (nums k xs)).toArray e (0, 0))) (hc : cur.length = xs.length) (hb : base ≤ g) (hx : xs.length ≤ maxLen) :
    Kd.R (Kd.int k) e w base (fun _ => True) (.slice (some ⟨g, 0, none⟩) xs.length xs.length) xs := by
  have hs : splice cur 0 (nums k xs) = nums k xs := by
    simp only [splice, List.take_zero, List.nil_append, Nat.zero_add]
    rw [List.drop_eq_nil_of_le (by simp [nums]; omega), List.append_nil]
  rw [hs] at h
  refine Kd.R_of_own (enc := Value.int k) (h1 := fun _ => rfl) ?_ (fun _ _ => trivial)
  refine ⟨by simp [encs], .inr ⟨g, xs.length, (nums k xs).toArray, rfl, hb, h, Nat.le_refl _, hx, by simp [nums], ?_⟩⟩
  rw [List.take_of_length_le (by simp [nums])]
  rfl
theorem infoInt : (Try.prog.info? 3).map (fun i => (i.zero, i.size, i.bytes)) = some (some (.int .i64 0), 1, 8) := by kernel_rfl

end Go.Proofs.Ytmfonbonfhngnaa.Hand

/- A region that draws its order, in a round of a loop over a function, at the wide fence: the plain walk in the order of the text serves. -/
namespace Go.Proofs.Ytmfonbonfhngnaa.Hand
set_option linter.unusedVariables false
set_option linter.unusedSimpArgs false
open Go.RowKit

section
variable {P : Program} {ops : Array Oper} {C : World → Prop} {n : Nat}

theorem quiet_round {o : Oper} {a : Act} {K : Act → Prop} {K' : Act → World → Prop} {Q' : Exit → Act → World → Prop} {w : World} (r : Nat) (hd : ∀ c, o.op ≠ .defer c) (hw : C w) (h : ∀ a w', C w' → K a → K' a w')
    (hh : o.quiet P a C K) : o.wpIn (Fence.wide.inRound r) n P a w K' Q' := by
  obtain ⟨v, h1, h2⟩ := hh
  have h3 := h1 w hw
  unfold Oper.quietAt at h3
  unfold Oper.wpIn
  refine ⟨fun _ _ => trivial, ?_⟩
  rw [Oper.semAt_eq _ _ _ hd]
  generalize (execOp a.eval o).run P w = q at *
  cases q with
  | halt x w' => exact h3.elim
  | ok x w' =>
    cases x with
    | value u =>
      obtain ⟨rfl, rfl⟩ := h3
      exact h _ _ hw h2
    | skip =>
      obtain ⟨rfl, rfl⟩ := h3
      exact h _ _ hw h2
    | enter f args =>
      obtain ⟨rfl, hc⟩ := h3
      exact ⟨fun e => by simp [Fence.wide, Fence.inRound] at e, ((callsIn_wide.2 hc).inRound r).mono fun e w'' ⟨he, hw''⟩ => by subst he; exact h _ _ hw'' h2⟩
    | _ => exact h3.elim

theorem any_round {Q : Act → Prop} {Q' : Exit → Act → World → Prop} (r : Nat) (hd : ∀ (i : Nat) (o : Oper), ops[i]? = some o → ∀ c, o.op ≠ .defer c) (hQ : ∀ a w, C w → Q a → Q' .normal a w) :
    ∀ (fuel : Nat) (listed : Array Bool) (a : Act) (w : World), C w → wpAnyQ P .any ops C Q fuel listed a → wpAnyIn (Fence.wide.inRound r) n P .any ops Q' fuel listed a w
  | 0, _, _, _, hw, h => ⟨h.1, hQ _ _ hw h.2⟩
  | fuel + 1, listed, a, w, hw, h => ⟨fun h0 => hQ _ _ hw (h.1 h0), fun i hi => by
      have hh := h.2 i hi
      unfold qOp at hh
      unfold wpOpIn
      split
      · rename_i ho; simp only [ho] at hh; exact any_round r hd hQ fuel _ _ _ hw hh
      · rename_i o ho
        simp only [ho] at hh
        split
        · rename_i hg; simp only [hg, if_true] at hh
          exact quiet_round r (hd i o ho) hw (fun a' w' hw' => any_round r hd hQ fuel _ a' w' hw') hh
        · rename_i hg; simp only [hg] at hh
          exact ⟨fun _ _ => trivial, any_round r hd hQ fuel _ _ _ hw hh⟩⟩

/-- does no operation defer? -/
def calmB (ops : Array Oper) : Bool := ops.toList.all fun o => match o.op with | .defer _ => false | _ => true
theorem calm_spec (h : calmB ops = true) : ∀ (i : Nat) (o : Oper), ops[i]? = some o → ∀ c, o.op ≠ .defer c := by
  intro i o ho c hc
  have hm : o ∈ ops.toList := by
    obtain ⟨hi, e⟩ := Array.getElem?_eq_some_iff.1 ho
    rw [← e]; exact Array.getElem_mem_toList hi
  have := List.all_eq_true.1 h o hm
  rw [hc] at this
  cases this

theorem wpIn_region_kept {id : Nat} {Q : Exit → Act → World → Prop} {a : Act} {w : World} {l : List Oper} (r : Nat) (m : Nat) (w0 : World) (hm : P.follows .mixedOrders = true) (hB : Region.lexB .any l.toArray = true) (hd : calmB l.toArray = true) (hb : Below m w0 w)
    (h : wpQuiet P l.toArray (fun w' => ∃ x : Kw m w0, w' = x.1) (fun a' => ∀ w', (∃ x : Kw m w0, w' = x.1) → Q .normal a' w') l a) : (Code.region id l.toArray true).wpIn (Fence.wide.inRound r) n P Q a w := by
  simp only [Region.lexB, Bool.and_eq_true] at hB
  have hC : ∃ x : Kw m w0, w.drew = x.1 := ⟨⟨_, hb.drew⟩, rfl⟩
  refine wpIn_region_any hm (any_round r (calm_spec hd) (C := fun w' => ∃ x : Kw m w0, w' = x.1) (Q := fun a' => ∀ w', (∃ x : Kw m w0, w' = x.1) → Q .normal a' w') (fun _ w' hw' h => h w' hw') _ _ _ _ hC ?_)
  have := wpAnyQ_lex (P := P) (C := fun w' => ∃ x : Kw m w0, w' = x.1) (md := .any) hB.1 l 0 (Array.replicate l.toArray.size false) a (by simp) (by simpa using hB.2) h
  simpa using this

end
end Go.Proofs.Ytmfonbonfhngnaa.Hand

/- A net in memory; its node's way made longer. -/
namespace Go.Proofs.Ytmfonbonfhngnaa.Hand
set_option linter.unusedVariables false
set_option linter.unusedSimpArgs false
open Go.RowKit Go.Maps Go.Proofs.YtmfonbonfhngnaaW.PrintWords Go.Proofs.YtmfonbonfhngnaaW.PrintLast Go.Proofs.YtmfonbonfhngnaaW.PrintMore

/-- numbers in cells -/
def cellsN (n : Nat) (f : Nat → Int) : Array Value := ((List.range n).map fun j => Value.int .i64 (f j)).toArray
theorem cellsN_size (n : Nat) (f : Nat → Int) : (cellsN n f).size = n := by simp [cellsN]
theorem cellsN_get {n : Nat} (f : Nat → Int) (j : Nat) (h : j < n) : (cellsN n f)[j]? = some (.int .i64 (f j)) := by
  simp [cellsN, List.getElem?_range h, h]
theorem cellsN_one (n : Nat) (f : Nat → Int) : (cellsN n f).all (·.oneCell') = true := by
  simp [cellsN, Value.oneCell']
theorem cellsN_ext {n : Nat} {f g : Nat → Int} (h : ∀ j, j < n → f j = g j) : cellsN n f = cellsN n g := by
  unfold cellsN
  congr 1
  exact List.map_congr_left fun j hj => by rw [h j (List.mem_range.1 hj)]
def upd (f : Nat → Int) (i : Nat) (v : Int) : Nat → Int := fun j => if j = i then v else f j
theorem upd_same (f : Nat → Int) (i : Nat) (v : Int) : upd f i v i = v := by simp [upd]
theorem upd_other (f : Nat → Int) {i j : Nat} (v : Int) (h : j ≠ i) : upd f i v j = f j := by simp [upd, h]
theorem cellsN_set (n : Nat) (f : Nat → Int) (i : Nat) (v : Int) : (cellsN n f).setIfInBounds i (.int .i64 v) = cellsN n (upd f i v) := by
  apply Array.ext_getElem?
  intro j
  by_cases hj : j < n
  · rw [cellsN_get _ _ hj, Array.getElem?_setIfInBounds]
    by_cases e : i = j
    · subst e
      rw [if_pos rfl, if_pos (by rw [cellsN_size]; exact hj)]
      simp [upd]
    · rw [if_neg e, cellsN_get _ _ hj]
      simp [upd, Ne.symm e]
  · have h1 : (cellsN n (upd f i v)).size ≤ j := by rw [cellsN_size]; omega
    have h2 : ((cellsN n f).setIfInBounds i (.int .i64 v)).size ≤ j := by rw [Array.size_setIfInBounds, cellsN_size]; omega
    rw [Array.getElem?_eq_none h1, Array.getElem?_eq_none h2]

/-- the cells of a net: the row, the links' flow, which logs are taken, and the marks of all nodes (how far away; the node before; over a log) -/
def netC (rv mv tv : Value) (G : Nat → Int) : Array Value := #[rv, mv, tv] ++ cellsN 186 G
theorem netC_size (rv mv tv : Value) (G : Nat → Int) : (netC rv mv tv G).size = 189 := by simp [netC, cellsN_size]
theorem netC_get (rv mv tv : Value) (G : Nat → Int) (j : Nat) (h : j < 186) : (netC rv mv tv G)[3 + j]? = some (.int .i64 (G j)) := by
  rw [netC, Array.getElem?_append_right (by simp)]
  simp only [List.size_toArray, List.length_cons, List.length_nil]
  rw [show 3 + j - (0 + 1 + 1 + 1) = j by omega]
  exact cellsN_get _ _ h
theorem netC_set (rv mv tv : Value) (G : Nat → Int) (j : Nat) (v : Int) (hj : j < 186) : (netC rv mv tv G).setIfInBounds (3 + j) (.int .i64 v) = netC rv mv tv (upd G j v) := by
  apply Array.ext_getElem?
  intro i
  rw [netC, netC, ← cellsN_set]
  rw [Array.getElem?_setIfInBounds]
  by_cases h : i < 3
  · rw [if_neg (by omega), Array.getElem?_append_left (by simpa using h), Array.getElem?_append_left (by simpa using h)]
  · rw [Array.getElem?_append_right (by simp; omega), Array.getElem?_append_right (by simp; omega), Array.getElem?_setIfInBounds]
    simp only [List.size_toArray, List.length_cons, List.length_nil, Array.size_append, cellsN_size]
    by_cases e : 3 + j = i
    · subst e
      rw [if_pos rfl, if_pos (by omega), if_pos (by omega), if_pos (by omega)]
    · rw [if_neg e, if_neg (by omega)]

/-- a net's box -/
def BoxAt (W : World) (B : Nat) (rv mv tv : Value) (G : Nat → Int) : Prop := W.heap[B]? = some (.cells (netC rv mv tv G) 81 (0, 0))
theorem BoxAt.cell {W : World} {B : Nat} {rv mv tv : Value} {G : Nat → Int} (h : BoxAt W B rv mv tv G) (j : Nat) (hj : j < 186) : W.cell? ⟨B, 3 + j, none⟩ = some (.int .i64 (G j)) := by
  rw [cell_of_row W _ _ _ _ _ h]; exact netC_get _ _ _ _ _ hj
theorem BoxAt.c0 {W : World} {B : Nat} {rv mv tv : Value} {G : Nat → Int} (h : BoxAt W B rv mv tv G) : W.cell? ⟨B, 0, none⟩ = some rv := by
  rw [cell_of_row W _ _ _ _ _ h, netC, Array.getElem?_append_left (by simp)]; rfl
theorem BoxAt.c1 {W : World} {B : Nat} {rv mv tv : Value} {G : Nat → Int} (h : BoxAt W B rv mv tv G) : W.cell? ⟨B, 1, none⟩ = some mv := by
  rw [cell_of_row W _ _ _ _ _ h, netC, Array.getElem?_append_left (by simp)]; rfl
theorem BoxAt.c2 {W : World} {B : Nat} {rv mv tv : Value} {G : Nat → Int} (h : BoxAt W B rv mv tv G) : W.cell? ⟨B, 2, none⟩ = some tv := by
  rw [cell_of_row W _ _ _ _ _ h, netC, Array.getElem?_append_left (by simp)]; rfl
theorem BoxAt.free {W : World} {B : Nat} {rv mv tv : Value} {G : Nat → Int} (h : BoxAt W B rv mv tv G) (o : Nat) : W.frozen? ⟨B, o, none⟩ = false := frozen_of_row W _ o _ _ h
theorem BoxAt.set {W : World} {B : Nat} {rv mv tv : Value} {G : Nat → Int} (h : BoxAt W B rv mv tv G) (j : Nat) (v : Int) (hj : j < 186) : BoxAt (W.setCell ⟨B, 3 + j, none⟩ (.int .i64 v)) B rv mv tv (upd G j v) := by
  have := heap_setCell_same W B (3 + j) _ _ (.int .i64 v) h
  rw [netC_set _ _ _ _ _ _ hj] at this
  exact this

def farI : Int := -1000
/-- the way to a node is made longer, if it is so by another one -/
def relax (G : Nat → Int) (u v : Nat) (g o : Int) : Nat → Int :=
  if farI < G u ∧ G v < G u + g then upd (upd (upd G v (G u + g)) (62 + v) u) (124 + v) o else G

theorem grown_drew (w : World) (n : Nat) (r : Option Nat) : w.grownBy (w.drewN n) r := by
  exact ⟨rfl, rfl, rfl, Nat.le_refl _, fun k hk _ => rfl⟩
theorem grown_set (w : World) (B o : Nat) (v : Value) : w.grownBy (w.setCell ⟨B, o, none⟩ v) (some B) :=
  ⟨rfl, rfl, rfl, by simp, fun k _ hk => Below.heap_setCell w ⟨B, o, none⟩ v k (fun e => hk (by rw [e]))⟩
theorem BoxAt.drew {W : World} {B : Nat} {rv mv tv : Value} {G : Nat → Int} (h : BoxAt W B rv mv tv G) (n : Nat) : BoxAt (W.drewN n) B rv mv tv G := by
  exact h

set_option maxHeartbeats 4000000 in
set_option maxRecDepth 100000 in
theorem reach_any (B : Nat) (rv mv tv : Value) (G : Nat → Int) (u v : Nat) (g o : Int) (w : World) (h : BoxAt w B rv mv tv G) (hu : u < 62) (hv : v < 62) (hg : -1 ≤ g ∧ g ≤ 1) (hG : -1000 ≤ G u ∧ G u ≤ 10000000000000) :
    Calls Try.prog 78 #[.pointer (some ⟨B, 0, none⟩), .int .i64 u, .int .i64 v, .int .i64 g, .int .i64 o] w
      fun e w' => e = .returned (.tuple #[]) ∧ BoxAt w' B rv mv tv (relax G u v g o) ∧ w.grownBy w' (some B) := by
  have cu := h.cell u (by omega)
  have cv := h.cell v (by omega)
  obtain ⟨x, hx⟩ : ∃ x, x = G u := ⟨_, rfl⟩
  obtain ⟨y, hy⟩ : ∃ y, y = G v := ⟨_, rfl⟩
  rw [← hx] at cu hG
  rw [← hy] at cv
  have u0 : (0 : Int) ≤ (u : Int) := by omega
  have u1 : (u : Int) < 62 := by omega
  have v0 : (0 : Int) ≤ (v : Int) := by omega
  have v1 : (v : Int) < 62 := by omega
  have HX := Lib.hid hx
  have HY := Lib.hid hy
  clear hx hy
  by_cases g1 : farI < x
  · have d1 : decide ((-1000 : Int) < x) = true := decide_eq_true g1
    by_cases g2 : y < x + g
    · have d2 : decide (y < x + g) = true := decide_eq_true g2
      go_enter Try.func78, Try.ntmps78
      go_wp2_with fail
      go_quiet (fail)
      go_wp2_with fail
      have fz : ∀ o, w.frozen? ⟨B, o, none⟩ = false := h.free
      have cb : w.cell? ⟨B, 65 + v, none⟩ = some (.int .i64 (G (62 + v))) := by rw [show 65 + v = 3 + (62 + v) by omega]; exact h.cell _ (by omega)
      have co : w.cell? ⟨B, 127 + v, none⟩ = some (.int .i64 (G (124 + v))) := by rw [show 127 + v = 3 + (124 + v) by omega]; exact h.cell _ (by omega)
      go_region
      go_end0
      refine ⟨rfl, ?_, ((grown_drew w _ _).trans (grown_set _ _ _ _)).trans ((grown_set _ _ _ _).trans (grown_set _ _ _ _))⟩
      have h1 := ((((h.drew (nq + 1)).set v (x + g) (by omega)).set (62 + v) u (by omega)).set (124 + v) o (by omega))
      rw [show 3 + (62 + v) = 65 + v by omega, show 3 + (124 + v) = 127 + v by omega] at h1
      have e : relax G u v g o = upd (upd (upd G v (x + g)) (62 + v) u) (124 + v) o := by
        rw [relax, ← HX.out, ← HY.out, if_pos ⟨g1, g2⟩]
      rw [e]; exact h1
    · have d2 : decide (y < x + g) = false := decide_eq_false g2
      go_enter Try.func78, Try.ntmps78
      go_wp2_with fail
      go_quiet (fail)
      go_wp2
      go_end0
      exact ⟨rfl, by rw [relax, ← HX.out, ← HY.out, if_neg (fun hh => absurd hh.2 (by omega))]; exact h.drew _, grown_drew _ _ _⟩
  · have d1 : decide ((-1000 : Int) < x) = false := decide_eq_false g1
    go_enter Try.func78, Try.ntmps78
    go_wp2_with fail
    go_quiet (fail)
    go_wp2
    go_end0
    exact ⟨rfl, by rw [relax, ← HX.out, ← HY.out, if_neg (fun hh => absurd hh.1 (by omega))]; exact h.drew _, grown_drew _ _ _⟩
end Go.Proofs.Ytmfonbonfhngnaa.Hand

/- The links of a net, one after another. -/
namespace Go.Proofs.Ytmfonbonfhngnaa.Hand
set_option linter.unusedVariables false
set_option linter.unusedSimpArgs false
open Go.RowKit Go.Shelf Go.Maps Go.Proofs.YtmfonbonfhngnaaW.PrintWords Go.Proofs.YtmfonbonfhngnaaW.PrintLast Go.Proofs.YtmfonbonfhngnaaW.PrintMore
attribute [local go_sem] Oper.semAt_some

theorem room_of_none {F : Fence} (hd : F.depth = none) (k : Nat) : F.room k := fun d h => by rw [hd] at h; cases h
theorem round_any {F : Fence} (hd : F.depth = none) {m m' : Nat} {P : Program} {l : Nat} {f : FuncId} {tmps : Array Value} {assign body : Code} {w : World} {R : Ending → World → Prop}
    (h : RoundIn F m P l f tmps assign body w R) : RoundIn F m' P l f tmps assign body w R := ⟨h.1, fun c cs _ => h.2 c cs (room_of_none hd _)⟩
theorem yield_any {F : Fence} (hd : F.depth = none) {m : Nat} (m' : Nat) {P : Program} {l : Nat} {args : Array Value} {W : World} {R : Ending → World → Prop} (h : YieldAt F m P l args W R) : YieldAt F m' P l args W R := by
  obtain ⟨fn, tmps, assign, body, hy, hR⟩ := h
  exact ⟨fn, tmps, assign, body, hy, round_any hd hR⟩
theorem grown_of_keep {W W' : World} (h : Below W.heap.size W W') : W.grownBy W' none := ⟨h.os, h.tape, h.output, h.size, fun k hk _ => h.block k hk⟩

theorem blk_add (a : Addr) (n : Nat) : (a.add n).block = a.block := by unfold Addr.add; split <;> rfl
theorem cells_two_new (w : World) (x y : Value) (t : TypeId) : ∀ j u, ([x, y] : List Value)[j]? = some u → (w.alloc (.cells #[x, y] t)).cell? ((⟨w.heap.size, 0, none⟩ : Addr).add j) = some u := by
  intro j u hu
  have hj : j = 0 ∨ j = 1 := by
    have := (List.getElem?_eq_some_iff.1 hu).1
    simp at this; omega
  rw [add_plain]
  rcases hj with rfl | rfl
  · simp at hu; subst hu; simp
  · simp at hu; subst hu; simp
theorem own_from {w : World} {base n : Nat} {e : TypeId} {size : Nat} {v : Value} {xs : List Value} (h : w.ownsRow base e size v n xs) {j : Nat} (hj : v.ownBlock = some j) : base ≤ j := by
  rcases h.2 with ⟨rfl, _⟩ | ⟨g, cap, cur, rfl, hg, _⟩
  · cases hj
  · cases hj; exact hg
theorem own_some {w : World} {base n : Nat} {e : TypeId} {size : Nat} {v : Value} {xs : List Value} (hn : 0 < n) (h : w.ownsRow base e size v n xs) :
    ∃ g cap cur, v = .slice (some ⟨g, 0, none⟩) n cap ∧ base ≤ g ∧ w.heap[g]? = some (.cells cur e (0, 0)) ∧ n ≤ cap ∧ cap ≤ maxLen ∧ cur.size = cap * size ∧ cur.toList.take (n * size) = xs := by
  rcases h.2 with ⟨_, h0⟩ | h
  · omega
  · exact h
/-- the links behind one log, up to another one -/
def behind (l : List Int) (i : Nat) : Nat → List (Nat × Nat)
  | 0 => []
  | d + 1 => behind l i d ++ (if rd l i ≤ rd l (i + 1 + d : Nat) then [(2 * i + 3, 2 * (i + 1 + d) + 2)] else [])
/-- the links of one log -/
def linksAt (l : List Int) (i : Nat) : List (Nat × Nat) := [(0, 2 * i + 2), (2 * i + 2, 2 * i + 3), (2 * i + 3, 1)] ++ behind l i (l.length - (i + 1))
/-- the links of the first logs; all links -/
def linksTo (l : List Int) : Nat → List (Nat × Nat)
  | 0 => []
  | k + 1 => linksTo l k ++ linksAt l k
def linksL (l : List Int) : List (Nat × Nat) := linksTo l l.length
theorem linksTo_prefix (l : List Int) (i j : Nat) (h : i ≤ j) : linksTo l i <+: linksTo l j := by
  induction j with
  | zero => obtain rfl : i = 0 := by omega
            exact List.prefix_refl _
  | succ j ih =>
    by_cases e : i = j + 1
    · subst e; exact List.prefix_refl _
    · exact (ih (by omega)).trans (List.prefix_append _ _)
theorem behind_length (l : List Int) (i d : Nat) : (behind l i d).length ≤ d := by
  induction d with
  | zero => simp [behind]
  | succ d ih =>
    rw [behind, List.length_append]
    split <;> simp <;> omega
theorem linksAt_length (l : List Int) (i : Nat) : (linksAt l i).length ≤ 3 + l.length := by
  have := behind_length l i (l.length - (i + 1))
  rw [linksAt, List.length_append]; simp; omega
def endV (x : Nat × Nat) : Value := .agg #[.int .i64 (x.1 : Int), .int .i64 (x.2 : Int)]
def endEnc (x : Nat × Nat) : Array Value := #[endV x]
/-- ends in cells -/
def endsC (L : List (Nat × Nat)) : List Value := L.flatMap fun x => [.int .i64 (x.1 : Int), .int .i64 (x.2 : Int)]
theorem endsC_length (L : List (Nat × Nat)) : (endsC L).length = L.length * 2 := by
  induction L with
  | nil => rfl
  | cons x L ih => rw [endsC, List.flatMap_cons, List.length_append]; rw [endsC] at ih; rw [ih]; simp; omega
theorem endsC_append (L L' : List (Nat × Nat)) : endsC (L ++ L') = endsC L ++ endsC L' := by simp [endsC]
theorem endsC_get (L : List (Nat × Nat)) (m : Nat) (h : m < L.length) : (endsC L)[2 * m]? = some (.int .i64 (L[m].1 : Int)) ∧ (endsC L)[2 * m + 1]? = some (.int .i64 (L[m].2 : Int)) := by
  induction L generalizing m with
  | nil => exact absurd h (Nat.not_lt_zero _)
  | cons x L ih =>
    cases m with
    | zero => exact ⟨rfl, rfl⟩
    | succ m =>
      have := ih m (by simpa using h)
      rw [endsC, List.flatMap_cons, show 2 * (m + 1) = 2 * m + 2 by omega, show 2 * m + 2 + 1 = (2 * m + 1) + 2 by omega]
      exact this
theorem infoEnds : (Try.prog.info? 84).map (fun i => (i.zero, i.size, i.bytes)) = some (some (.agg #[.int .i64 0, .int .i64 0]), 2, 16) := by kernel_rfl

/-- what a round keeps: every cell outside one block, and this block's first one -/
structure KeepB (B : Nat) (W W' : World) : Prop where
  cell : ∀ (a : Addr) (v : Value), a.block ≠ B → W.cell? a = some v → W'.cell? a = some v
  first : ∀ v, W.cell? ⟨B, 0, none⟩ = some v → W'.cell? ⟨B, 0, none⟩ = some v
  size : W.heap.size ≤ W'.heap.size
theorem KeepB.trans {B : Nat} {X Y Z : World} (h : KeepB B X Y) (k : KeepB B Y Z) : KeepB B X Z :=
  ⟨fun a v ha hv => k.cell a v ha (h.cell a v ha hv), fun v hv => k.first v (h.first v hv), Nat.le_trans h.size k.size⟩
theorem KeepB.of_below {B : Nat} {W W' : World} (h : Below W.heap.size W W') : KeepB B W W' :=
  ⟨fun a v _ hv => (h.cell (cell_size hv)).trans hv, fun v hv => (h.cell (cell_size hv)).trans hv, h.size⟩

theorem links_any (b : Nat) (w : World) : Calls Try.prog 79 #[.pointer (some ⟨b, 0, none⟩)] w fun e w' =>
    e = .returned (.func (.func 80) #[] #[.pointer (some ⟨w.heap.size, 0, none⟩)]) ∧ w' = w.alloc (.cells #[.pointer (some ⟨b, 0, none⟩)] 56) := by
  go_enter Try.func79, Try.ntmps79
  go_wp2
  go_ret
  exact ⟨rfl, rfl⟩

set_option maxRecDepth 100000 in
set_option maxHeartbeats 4000000 in
theorem links_stops {α : Type} (val : α → Nat × Nat) (LA : List α) (l : List Int) (hLA : LA.map val = linksL l) (A : Option Addr) (c b B n0 : Nat) (w : World) (hl : l.length ≤ 30) (hc : l.length ≤ c) (hr : Kd.C (Kd.int .i64) w A l.length l) (hn : n0 ≤ w.heap.size) (hA : 0 < l.length → ∀ ad, A = some ad → ad.block ≠ B) (hb : b ≠ B)
    (c0 : w.cell? ⟨b, 0, none⟩ = some (.pointer (some ⟨B, 0, none⟩))) (c1 : w.cell? ⟨B, 0, none⟩ = some (.slice A l.length c)) (n : Nat) :
    SeqStopsK Fence.wide n Try.prog 80 #[.pointer (some ⟨b, 0, none⟩)] (fun x => endEnc (val x)) (KeepB B) (fun xs => xs = LA) (fun pre => pre <+: LA) LA.length w := fun lo J Jx W hW hJ hJx hY h0 => by
  have d0 : W.cell? ⟨b, 0, none⟩ = some (.pointer (some ⟨B, 0, none⟩)) := (hW.cell (cell_size c0)).trans c0
  have d1 : W.cell? ⟨B, 0, none⟩ = some (.slice A l.length c) := (hW.cell (cell_size c1)).trans c1
  have HR := Lib.hid (Kd.C_below hr hW)
  have HJ := Lib.hid hJ
  have HY := Lib.hid hY
  have H0 := Lib.hid h0
  have HL := Lib.hid hl
  have HLN : Hid ((linksL l).length = LA.length) := Lib.hid (by rw [← hLA, List.length_map])
  have HLA := Lib.hid hLA
  have HA := Lib.hid hA
  have HBB := Lib.hid hb
  obtain ⟨i0, hi, hz0, hz1, hz2⟩ := info_parts infoEnds
  clear hJ hJx hY h0 hr hW hl hA hb c0 c1 hLA
  refine callsIn_of_wp Try.func80 rfl trivial ?_ rfl
  simp only [Try.ntmps80, List.size_toArray, List.length_cons, List.length_nil, Nat.reduceAdd, Nat.reduceSub, Array.replicate_succ, Array.replicate_zero, List.push_toArray, List.append_toArray, List.nil_append, List.cons_append]
  gi_wp2
  gi_loopw [14] (fun i wr => ∃ k : Nat, k ≤ l.length ∧ i = .int .i64 k ∧ Hid (J (LA.take (linksTo l k).length) wr ∧ KeepB B W wr)) (fun i _ => 40 - (intOf i).toNat)
  case atStart => exact ⟨0, Nat.zero_le _, rfl, Lib.hid ⟨by rw [linksTo, List.length_nil, List.take_zero]; exact H0.out, KeepB.of_below (Below.refl _ _)⟩⟩
  case round =>
    obtain ⟨k, hk, rfl, HI⟩ := hrel
    by_cases hlt : k < l.length
    · have hlti : (k : Int) < (l.length : Int) := by omega
      have p0 : (0 : Int) ≤ (k : Int) := by omega
      have hk30 : (k : Int) < 30 := by have := HL.out; omega
      obtain ⟨ad, rfl, hx⟩ := Kd.at_int HR.out (k : Int) p0 hlti
      rw [Int.toNat_natCast] at hx
      have hx' := HI.out.2.cell (ad.add k) _ (by have := HA.out (by omega) ad rfl; rw [blk_add]; exact this) hx
      have e0 := HI.out.2.cell _ _ HBB.out d0
      have e1 := HI.out.2.first _ d1
      obtain ⟨x, hxe⟩ : ∃ x, x = rd l (k : Int) := ⟨_, rfl⟩
      rw [← hxe] at hx'
      have HX := Lib.hid hxe
      clear hx hxe
      obtain ⟨wo, rfl⟩ : ∃ wo : World, wo = wr := ⟨_, rfl⟩
      have HWO := Lib.hid (And.intro e0 (And.intro e1 (cell_size e0)))
      gi_wp2
      clear e0 e1 hx'
      gi_loopw [5, 6] (fun v i wq => ∃ (d : Nat) (L : List (Nat × Nat)), d + (k + 1) ≤ l.length ∧ i = .int .i64 ((k + 1 + d : Nat) : Int) ∧ L.length ≤ 3 + d ∧ 3 ≤ L.length ∧ Hid (L = [(0, 2 * k + 2), (2 * k + 2, 2 * k + 3), (2 * k + 3, 1)] ++ behind l k d) ∧ Hid (wq.ownsRow wo.heap.size 84 2 v L.length (endsC L) ∧ Below wo.heap.size wo wq)) (fun _ i _ => 100 - (intOf i).toNat)
      case atStart =>
        refine ⟨0, _, by omega, by go_num, Nat.le_refl _, by simp, Lib.hid rfl, Lib.hid ⟨?_, (Below.refl _ _).alloc (Nat.le_refl _) _⟩⟩
        refine ⟨endsC_length _, .inr ⟨wo.heap.size, 3, _, rfl, Nat.le_refl _, heap_alloc_last _ _, Nat.le_refl _, by unfold maxLen; omega, rfl, ?_⟩⟩
        simp [endsC, behind]
      case round =>
        obtain ⟨d, L, hd, rfl, hLl, hL3, HLL, HJ2⟩ := hrel
        obtain ⟨wq, rfl⟩ : ∃ wq : World, wq = wr := ⟨_, rfl⟩
        have f0 := (HJ2.out.2.cell HWO.out.2.2).trans HWO.out.1
        have f1 := (HJ2.out.2.cell (cell_size HWO.out.2.1)).trans HWO.out.2.1
        have hLb : L.length ≤ 40 := by have := HL.out; omega
        by_cases hlt2 : k + 1 + d < l.length
        · have hlti2 : ((k + 1 + d : Nat) : Int) < (l.length : Int) := by omega
          have p1 : (0 : Int) ≤ ((k + 1 + d : Nat) : Int) := by omega
          have hd30 : ((k + 1 + d : Nat) : Int) < 30 := by have := HL.out; omega
          obtain ⟨ad', e', hy⟩ := Kd.at_int HR.out ((k + 1 + d : Nat) : Int) p1 hlti2
          cases e'
          rw [Int.toNat_natCast] at hy
          have hy1 := HI.out.2.cell (ad.add (k + 1 + d)) _ (by have := HA.out (by omega) ad rfl; rw [blk_add]; exact this) hy
          have hy' := (HJ2.out.2.cell (cell_size hy1)).trans hy1
          obtain ⟨y, hye⟩ : ∃ y, y = rd l ((k + 1 + d : Nat) : Int) := ⟨_, rfl⟩
          rw [← hye] at hy'
          have HY' := Lib.hid hye
          obtain ⟨q, hq⟩ : ∃ q : Nat, q = k + 1 + d := ⟨_, rfl⟩
          rw [← hq] at hlti2 p1 hd30 hy' ⊢
          have HQ := Lib.hid hq
          clear hy hye hy1 hq
          by_cases g : x ≤ y
          · have HN : Hid (L ++ [(2 * k + 3, 2 * q + 2)] = [(0, 2 * k + 2), (2 * k + 2, 2 * k + 3), (2 * k + 3, 1)] ++ behind l k (d + 1)) := Lib.hid (by
              rw [HLL.out, behind, if_pos (by rw [← HX.out, ← HQ.out, ← (show y = rd l (q : Int) by rw [HY'.out, HQ.out])]; exact g), ← HQ.out, List.append_assoc])
            gi_wp2_with (first | (gi_at_builtin; refine wpListIn_append_own _ rfl _ _ 96 rfl wo.heap.size 84 i0 (.agg #[.int .i64 0, .int .i64 0]) 2 16 Try.underlying96 hi hz0 hz1 hz2 rfl (by decide) _ _ _ rfl (HJ2.out.1.alloc _) ⟨wq.heap.size, 0, none⟩ 1 1 [.int .i64 (2 * (k : Int) + 3), .int .i64 (2 * (q : Int) + 2)] rfl rfl (cells_two_new _ _ _ _) (by simp [Value.oneCell']) (by unfold maxLen; omega) (by omega) (by have := HJ2.out.2.size; simp; omega) ?_; intro v5 w5 hown5 hgrow5 _; have H5 := Lib.hid (And.intro hown5 hgrow5); clear hown5 hgrow5))
            go_roundw
            case rel =>
              refine ⟨d + 1, L ++ [(2 * k + 3, 2 * q + 2)], by have := HQ.out; omega, by rw [HQ.out]; go_num, by simp; omega, by simp; omega, HN, Lib.hid ⟨?_, ?_⟩⟩
              · have := H5.out.1
                rw [endsC_append, List.length_append]
                exact this
              · exact (HJ2.out.2.alloc HJ2.out.2.size _).grown H5.out.2 (by have := HJ2.out.2.size; simp; omega) (fun j e => own_from HJ2.out.1 e)
            case measure => simp [intOf]; omega
          · have HN : Hid (L = [(0, 2 * k + 2), (2 * k + 2, 2 * k + 3), (2 * k + 3, 1)] ++ behind l k (d + 1)) := Lib.hid (by
              rw [HLL.out, behind, if_neg (by rw [← HX.out, ← HQ.out, ← (show y = rd l (q : Int) by rw [HY'.out, HQ.out])]; exact g), List.append_nil])
            gi_wp2
            go_roundw
            case rel => exact ⟨d + 1, L, by have := HQ.out; omega, by rw [HQ.out]; go_num, by omega, hL3, HN, HJ2⟩
            case measure => simp [intOf]; omega
        · have hnl2 : ¬ ((k + 1 + d : Nat) : Int) < (l.length : Int) := by omega
          have HD : Hid (L = linksAt l k) := Lib.hid (by rw [HLL.out, linksAt, show l.length - (k + 1) = d by omega])
          obtain ⟨g, cap, cur, rfl, hg, hh, hcap, _, hcur, htake⟩ := own_some (by omega) HJ2.out.1
          have HBW := Lib.hid (HJ2.out.2)
          have HG := Lib.hid (And.intro hg (And.intro hh (And.intro hcur htake)))
          clear hg hh hcur htake HJ2
          gi_wp2
          have HJQ := Lib.hid (HJ.out (LA.take (linksTo l k).length) wo wq none HI.out.1 (grown_of_keep HBW.out) (fun r e => by cases e))
          have HGB : Hid (g ≠ B) := Lib.hid (by have h1 := cell_size HWO.out.2.1; have h2 := HG.out.1; simp only at h1; omega)
          have hcells : ∀ m, (hm : m < L.length) → wq.cell? ⟨g, m * 2, none⟩ = some (.int .i64 (L[m].1 : Int)) ∧ wq.cell? ⟨g, m * 2 + 1, none⟩ = some (.int .i64 (L[m].2 : Int)) := fun m hm => by
            have hs := HG.out.2.2.1
            have ht := HG.out.2.2.2
            have he := endsC_get L m hm
            rw [Nat.mul_comm 2 m] at he
            have h1 : (cur.toList.take (L.length * 2))[m * 2]? = cur.toList[m * 2]? := by rw [List.getElem?_take, if_pos (by omega)]
            have h2 : (cur.toList.take (L.length * 2))[m * 2 + 1]? = cur.toList[m * 2 + 1]? := by rw [List.getElem?_take, if_pos (by omega)]
            rw [ht, he.1] at h1
            rw [ht, he.2] at h2
            refine ⟨?_, ?_⟩
            · rw [cell_of_row wq g _ _ _ _ HG.out.2.1]; simpa using h1.symm
            · rw [cell_of_row wq g _ _ _ _ HG.out.2.1]; simpa using h2.symm
          have HCL := Lib.hid hcells
          have f0' := Lib.hid (And.intro f0 f1)
          clear hcells f0 f1
          gi_loopw [67] (fun i wy => ∃ m : Nat, m ≤ L.length ∧ i = .int .i64 m ∧ Hid (J (LA.take ((linksTo l k).length + m)) wy ∧ KeepB B wq wy)) (fun i _ => 60 - (intOf i).toNat)
          case atStart => exact ⟨0, Nat.zero_le _, rfl, Lib.hid ⟨by rw [Nat.add_zero]; exact HJQ.out, KeepB.of_below (Below.refl _ _)⟩⟩
          case round =>
            obtain ⟨m, hm, rfl, HM⟩ := hrel
            obtain ⟨wy, rfl⟩ : ∃ wy : World, wy = wr := ⟨_, rfl⟩
            by_cases hltm : m < L.length
            · have hltmi : (m : Int) < (L.length : Int) := by omega
              have m0 : (0 : Int) ≤ (m : Int) := by omega
              have k1 := HM.out.2.cell ⟨g, m * 2, none⟩ _ HGB.out (HCL.out m hltm).1
              have k2 := HM.out.2.cell ⟨g, m * 2 + 1, none⟩ _ HGB.out (HCL.out m hltm).2
              have hlen : (linksTo l k).length + m < LA.length := by
                have h1 := (linksTo_prefix l (k + 1) l.length (by omega)).length_le
                rw [linksTo, ← HD.out, List.length_append] at h1
                have := HLN.out
                rw [linksL] at this; omega
              obtain ⟨x', hx'⟩ : ∃ x', x' = LA[(linksTo l k).length + m] := ⟨_, rfl⟩
              have hval : val x' = L[m] := by
                have h1 : (LA.map val)[(linksTo l k).length + m]? = some (val x') := by rw [List.getElem?_map, List.getElem?_eq_getElem hlen, hx']; rfl
                rw [HLA.out] at h1
                obtain ⟨r, hr⟩ := linksTo_prefix l (k + 1) l.length (by omega)
                rw [linksL, ← hr, linksTo, ← HD.out, List.append_assoc, List.getElem?_append_right (by omega), Nat.add_sub_cancel_left, List.getElem?_append_left hltm, List.getElem?_eq_getElem hltm] at h1
                exact (Option.some.inj h1).symm
              obtain ⟨e, he⟩ : ∃ e, e = val x' := ⟨_, rfl⟩
              rw [← hval, ← he] at k1 k2
              have hJe := HJ.out _ _ (wy.alloc (.cells #[.int .i64 (e.1 : Int), .int .i64 (e.2 : Int)] 84)) none HM.out.1 (World.grownBy_alloc _ _ _) (fun r e => by cases e)
              obtain ⟨fn, tmps, assign, body, hy, hR⟩ := HY.out _ x' _ hJe (by rw [List.length_take]; omega)
              have HRR := Lib.hid hR
              have hLb2 : L.length ≤ 40 := hLb
              have HTK : Hid (LA.take ((linksTo l k).length + (m + 1)) = LA.take ((linksTo l k).length + m) ++ [x']) := Lib.hid (by rw [← Nat.add_assoc, List.take_succ_eq_append_getElem hlen, hx'])
              rw [← he] at hy
              dsimp only [endEnc, endV] at hy
              clear hR hJe he hlen hx' hval
              gi_wp2
              refine ⟨fun h => (by simp [Fence.wide] at h), HRR.out.mono ?_⟩
              rintro e' w7 (⟨rfl, hJ7, hk7⟩ | ⟨rfl, hx7⟩)
              · have H7 := Lib.hid (And.intro hJ7 (HM.out.2.trans ((KeepB.of_below ((Below.refl _ _).alloc (Nat.le_refl _) _)).trans hk7)))
                clear hJ7 hk7 HRR hy k1 k2
                gi_wp2
                go_roundw
                case rel => exact ⟨m + 1, by omega, by go_num, Lib.hid ⟨by rw [HTK.out]; exact H7.out.1, H7.out.2⟩⟩
                case measure => simp [intOf]; omega
              · have H7 := Lib.hid hx7
                clear hx7 HRR hy k1 k2
                gi_wp2
                refine bodyPost_ret (results_none rfl _ _ _) rfl ?_
                refine ⟨⟨_, rfl⟩, .inr ⟨_, ?_, H7.out⟩⟩
                rw [← HTK.out]
                exact List.take_prefix _ _
            · have hnm : ¬ (m : Int) < (L.length : Int) := by omega
              have HTK : Hid ((linksTo l (k + 1)).length = (linksTo l k).length + m) := Lib.hid (by rw [linksTo, ← HD.out, List.length_append]; omega)
              have HKB := Lib.hid (HI.out.2.trans ((KeepB.of_below HBW.out).trans HM.out.2))
              gi_wp2
              go_roundw
              case rel => exact ⟨k + 1, by omega, by go_num, Lib.hid ⟨by rw [HTK.out]; exact HM.out.1, HKB.out⟩⟩
              case measure => simp [intOf]; omega
    · have hnl : ¬ (k : Int) < (l.length : Int) := by omega
      have HK : Hid (k = l.length) := Lib.hid (by omega)
      gi_wp2
      go_end0
      exact ⟨⟨_, rfl⟩, .inl (by have h := HI.out.1; rw [HK.out, List.take_of_length_le (by rw [← HLN.out, linksL]; exact Nat.le_refl _)] at h; exact h)⟩
end Go.Proofs.Ytmfonbonfhngnaa.Hand

/- What flows through the links of a net, in a map; a step of a way is used. -/
namespace Go.Proofs.Ytmfonbonfhngnaa.Hand
set_option linter.unusedVariables false
set_option linter.unusedSimpArgs false
open Go.RowKit Go.Maps Go.Proofs.YtmfonbonfhngnaaW.PrintWords Go.Proofs.YtmfonbonfhngnaaW.PrintLast Go.Proofs.YtmfonbonfhngnaaW.PrintMore
open Go.ChangeMaps (setBlock heap_setBlock_same heap_setBlock_other)

theorem ends_law : WideMaps.KeyLaw Try.prog 84 := deep_law_laid laidOut (m := 3) (by omega) (of_decide_eq_true (by kernel_rfl)) (by kernel_rfl) (by kernel_rfl)
theorem zeroInt (w : World) : (zeroValue 3).run Try.prog w = .ok (.int .i64 0) w := by kernel_rfl
def updF (F : Nat → Nat → Int) (x y : Nat) (v : Int) : Nat → Nat → Int := fun a b => if a = x ∧ b = y then v else F a b
/-- what a map holds -/
def FlowIs (D : DataW Unit) (F : Nat → Nat → Int) : Prop := ∀ x y : Nat, x < 1000 → y < 1000 → D.atKey (pairKey x y) (.lit (.int .i64 0)) = .lit (.int .i64 (F x y))
/-- what a map in memory holds -/
def FlowAt (W : World) (M n : Nat) (F : Nat → Nat → Int) : Prop := ∃ D : DataW Unit, W.ownsMap Try.prog 84 (plainElem Try.prog 3) M n D ∧ IsMap D ∧ FlowIs D F
theorem nat_wf {x : Nat} (h : x < 1000) : (Lit.int .i64 (x : Int)).wf = true := WalkArith.wf_i64 (by omega)
theorem FlowAt.kept {W W' : World} {M n : Nat} {F : Nat → Nat → Int} {row : Option Nat} (h : FlowAt W M n F) (hg : W.grownBy W' row) (hne : some M ≠ row) : FlowAt W' M n F := by
  obtain ⟨D, h1, h2, h3⟩ := h
  exact ⟨D, h1.kept hg hne, h2, h3⟩
theorem FlowAt.lt {W : World} {M n : Nat} {F : Nat → Nat → Int} (h : FlowAt W M n F) : M < W.heap.size := by
  obtain ⟨D, ⟨es, clock, hb, _⟩, _⟩ := h
  exact heap_lt hb
theorem FlowAt.below {W W' : World} {M n : Nat} {F : Nat → Nat → Int} (h : FlowAt W M n F) (hg : Below W.heap.size W W') : FlowAt W' M n F :=
  h.kept (row := none) ⟨hg.os, hg.tape, hg.output, hg.size, fun k hk _ => hg.block k hk⟩ (by simp)
theorem FlowAt.look {W : World} {M n : Nat} {F : Nat → Nat → Int} (h : FlowAt W M n F) {x y : Nat} (hx : x < 1000) (hy : y < 1000) :
    (Instr.lookup 75 (.map (some M)) (.agg #[.int .i64 (x : Int), .int .i64 (y : Int)]) false).run Try.prog W = .ok (.int .i64 (F x y)) W := by
  obtain ⟨D, h1, h2, h3⟩ := h
  obtain ⟨c, hrun, hat, _⟩ := h1.lookup_int pair_law Try.underlying75 Try.underlying3 (zeroInt _) (pair_key (nat_wf hx) (nat_wf hy))
  rw [h3 x y hx hy] at hat
  have e : F x y = c := by simpa using hat
  rw [e]; exact hrun
theorem FlowIs.put {D : DataW Unit} {F : Nat → Nat → Int} (hD : IsMap D) (h : FlowIs D F) {x y : Nat} (hx : x < 1000) (hy : y < 1000) (v : Int) : FlowIs (D.put (pairKey x y) (.lit (.int .i64 v))) (updF F x y v) := by
  intro a b ha hb
  by_cases e : a = x ∧ b = y
  · obtain ⟨rfl, rfl⟩ := e
    rw [atKey_put_same hD (pairKey_is _ _ (nat_wf hx) (nat_wf hy)), updF, if_pos ⟨rfl, rfl⟩]
  · have hne : pairKey a b ≠ pairKey x y := fun h' => e (by
      have := pairKey_inj (nat_wf ha) (nat_wf hb) (nat_wf hx) (nat_wf hy) h'
      omega)
    rw [atKey_put_other hne, updF, if_neg e]
    exact h a b ha hb
theorem FlowAt.asked {W W1 : World} {M n : Nat} {F : Nat → Nat → Int} (h : FlowAt W M n F) (hn : n < maxLen) {x y : Nat} (hx : x < 1000) (hy : y < 1000) {r : Value}
    (hr : (Instr.mapEntry 75 (.map (some M)) (.agg #[.int .i64 (x : Int), .int .i64 (y : Int)])).run Try.prog W = .ok r W1) : FlowAt W1 M (n + 1) F := by
  have hl := h.look hx hy
  have hkey := pair_key (nat_wf hx) (nat_wf hy)
  obtain ⟨D, h1, h2, h3⟩ := h
  obtain ⟨W', hrun', hown', _⟩ := h1.update pair_law Try.underlying75 hn hkey (plainElem_int (e := 3) Try.underlying3 (show (Lit.int .i64 0).wf = true by decide))
  obtain ⟨es, clock, hb, Ft, hs, hD⟩ := h1
  rcases ends_law.find W hkey es.toList Ft.keys with ⟨g1, g2⟩ | ⟨j, e0, g1, g2, g3⟩
  · have hF : F x y = 0 := by
      simp [Instr.lookup, run_underlying Try.underlying75, MapKept.run_getObj_map hb, ends_law.check W _ hkey, g1, zeroInt, Result.andThen] at hl
      exact hl.symm
    simp [Instr.mapEntry, run_underlying Try.underlying75, MapKept.run_getObj_map hb, ends_law.check W false hkey, g1, zeroInt, MapKept.run_setObj_map _ hb, Result.andThen] at hr
    simp [Instr.mapUpdate, run_underlying Try.underlying75, MapKept.run_getObj_map hb, ends_law.check W false hkey, g1, MapKept.run_setObj_map _ hb, Result.andThen] at hrun'
    have e : W1 = W' := hr.2.symm.trans hrun'
    subst e
    refine ⟨_, hown', h2.put _ _, ?_⟩
    have := FlowIs.put h2 h3 hx hy 0
    have e2 : updF F x y 0 = F := by
      funext a b
      unfold updF
      split
      · rename_i e; rw [e.1, e.2, hF]
      · rfl
    rw [e2] at this
    exact this
  · have hj : es[j]? = some e0 := by simpa using g2
    have hsame : es.modify j (fun e => { e with key := .agg #[.int .i64 (x : Int), .int .i64 (y : Int)] }) = es := by
      apply Array.ext'
      rw [Array.toList_modify, ChangeMaps.modify_eq_set _ _ _ _ g2]
      have : ({ e0 with key := .agg #[.int .i64 (x : Int), .int .i64 (y : Int)] } : MapEntry) = e0 := by rw [← g3]
      rw [this]
      exact WideElems.set_self _ _ _ g2
    simp [Instr.mapEntry, run_underlying Try.underlying75, MapKept.run_getObj_map hb, ends_law.check W false hkey, g1, hj, g3, ends_law.stays W hkey, hsame, MapKept.run_setObj_map _ hb, Result.andThen] at hr
    have e : W1 = setBlock W M (.map es clock) := hr.2.symm
    subst e
    exact ⟨D, ⟨es, clock, heap_setBlock_same hb _, Ft, Nat.le_succ_of_le hs, hD⟩, h2, h3⟩
theorem FlowAt.entry {W : World} {M n : Nat} {F : Nat → Nat → Int} (h : FlowAt W M n F) (hn : n < maxLen) {x y : Nat} (hx : x < 1000) (hy : y < 1000) {v : Int} (hv : (Lit.int .i64 v).wf = true) :
    ∃ v0 st W1 W2, (Instr.mapEntry 75 (.map (some M)) (.agg #[.int .i64 (x : Int), .int .i64 (y : Int)])).run Try.prog W = .ok (.tuple #[v0, .int .i64 st]) W1 ∧
      (Instr.entryStore 75 (.map (some M)) (.int .i64 st) (.int .i64 v)).run Try.prog W1 = .ok () W2 ∧
      (Instr.lookup 75 (.map (some M)) (.agg #[.int .i64 (x : Int), .int .i64 (y : Int)]) false).run Try.prog W1 = .ok (.int .i64 (F x y)) W1 ∧ FlowAt W2 M (n + 1) (updF F x y v) ∧ W.grownBy W2 (some M) := by
  have h0 := h
  obtain ⟨D, h1, h2, h3⟩ := h
  obtain ⟨W', hrun', hown', _⟩ := h1.update pair_law Try.underlying75 hn (pair_key (nat_wf hx) (nat_wf hy)) (plainElem_int Try.underlying3 hv)
  obtain ⟨es, clock, hb, Ft, hs, hD⟩ := h1
  obtain ⟨v0, st, es1, clock1, hm, _, hst⟩ := Go.WideElems.entry_then_store ends_law Try.underlying75 zeroInt hb Ft (pair_key (nat_wf hx) (nat_wf hy))
  obtain ⟨es', clock', hst', hup⟩ := hst (setBlock W M (.map es1 clock1)) (.int .i64 v) (heap_setBlock_same hb _)
  rw [hup] at hrun'
  have hW' : W' = setBlock W M (.map es' clock') := by cases hrun'; rfl
  have hb1 := heap_setBlock_same hb (.map es1 clock1)
  refine ⟨v0, (st : Int), _, _, hm, hst', (h0.asked hn hx hy hm).look hx hy, ⟨_, ?_, h2.put _ _, FlowIs.put h2 h3 hx hy v⟩, ?_⟩
  · obtain ⟨esx, cx, hbx, Fx, hsx, hDx⟩ := hown'
    rw [hW', heap_setBlock_same hb] at hbx
    cases hbx
    exact ⟨es', clock', heap_setBlock_same hb1 _, Fx, hsx, hDx⟩
  · refine ⟨rfl, rfl, rfl, by simp [setBlock], fun i _ hi => ?_⟩
    rw [heap_setBlock_other hb1 _ (fun e => hi (by rw [e])), heap_setBlock_other hb _ (fun e => hi (by rw [e]))]
end Go.Proofs.Ytmfonbonfhngnaa.Hand

/- A step of a way is used. -/
namespace Go.Proofs.Ytmfonbonfhngnaa.Hand
set_option linter.unusedVariables false
set_option linter.unusedSimpArgs false
open Go.RowKit Go.Maps Go.Proofs.YtmfonbonfhngnaaW.PrintWords Go.Proofs.YtmfonbonfhngnaaW.PrintLast Go.Proofs.YtmfonbonfhngnaaW.PrintMore

/-- a net in memory: its box, what flows, which logs are taken -/
structure NetAt (W : World) (B M Tb : Nat) (rv : Value) (k : Nat) (F : Nat → Nat → Int) (t : List Int) (G : Nat → Int) : Prop where
  box : BoxAt W B rv (.map (some M)) (.slice (some ⟨Tb, 0, none⟩) t.length t.length) G
  flow : FlowAt W M k F
  taken : W.heap[Tb]? = some (.cells (nums .i64 t).toArray 3 (0, 0))
  ne : B ≠ M ∧ B ≠ Tb ∧ M ≠ Tb
section
variable {W W' : World} {B M Tb : Nat} {rv : Value} {k : Nat} {F : Nat → Nat → Int} {t : List Int} {G : Nat → Int}
theorem NetAt.below (h : NetAt W B M Tb rv k F t G) (hb : Below W.heap.size W W') : NetAt W' B M Tb rv k F t G :=
  ⟨heap_of_below hb (heap_lt h.box) h.box, h.flow.below hb, heap_of_below hb (heap_lt h.taken) h.taken, h.ne⟩
theorem NetAt.turnG (h : NetAt W B M Tb rv k F t G) {G' : Nat → Int} (hg : W.grownBy W' (some B)) (hb : BoxAt W' B rv (.map (some M)) (.slice (some ⟨Tb, 0, none⟩) t.length t.length) G') : NetAt W' B M Tb rv k F t G' :=
  ⟨hb, h.flow.kept hg (fun e => h.ne.1 (by cases e; rfl)), (hg.block Tb (heap_lt h.taken) (fun e => h.ne.2.1 (by cases e; rfl))).trans h.taken, h.ne⟩
theorem NetAt.turnF (h : NetAt W B M Tb rv k F t G) {F' : Nat → Nat → Int} {k' : Nat} (hg : W.grownBy W' (some M)) (hf : FlowAt W' M k' F') : NetAt W' B M Tb rv k' F' t G :=
  ⟨(hg.block B (heap_lt h.box) (fun e => h.ne.1 (by cases e; rfl))).trans h.box, hf, (hg.block Tb (heap_lt h.taken) (fun e => h.ne.2.2 (by cases e; rfl))).trans h.taken, h.ne⟩
theorem nums_set (t : List Int) (i : Nat) (v : Int) : (nums .i64 t).toArray.setIfInBounds i (.int .i64 v) = (nums .i64 (t.set i v)).toArray := by
  apply Array.ext'
  simp [nums, List.map_set]
theorem NetAt.setT (h : NetAt W B M Tb rv k F t G) (i : Nat) (v : Int) : NetAt (W.setCell ⟨Tb, i, none⟩ (.int .i64 v)) B M Tb rv k F (t.set i v) G := by
  have hg := grown_set W Tb i (.int .i64 v)
  refine ⟨?_, h.flow.kept hg (fun e => h.ne.2.2 (by cases e; rfl)), ?_, h.ne⟩
  · rw [List.length_set]
    exact (hg.block B (heap_lt h.box) (fun e => h.ne.2.1 (by cases e; rfl))).trans h.box
  · have := heap_setCell_same W Tb i _ _ (.int .i64 v) h.taken
    rw [nums_set] at this
    exact this
theorem NetAt.cellT (h : NetAt W B M Tb rv k F t G) {i : Nat} (hi : i < t.length) : W.cell? ⟨Tb, i, none⟩ = some (.int .i64 (rd t i)) := by
  rw [cell_of_row W _ _ _ _ _ h.taken]
  simp [nums, rd, hi]
theorem NetAt.freeT (h : NetAt W B M Tb rv k F t G) (i : Nat) : W.frozen? ⟨Tb, i, none⟩ = false := frozen_of_row W _ i _ _ h.taken
end

theorem below_drewN1 (W : World) (n : Nat) : Below W.heap.size W (W.drewN n) := ⟨rfl, rfl, rfl, Nat.le_refl _, fun _ _ => rfl⟩
theorem _root_.Go.RowKit.Below.drewN' {B : Nat} {a w : World} (h : Below B a w) (n : Nat) : Below B a (w.drewN n) := ⟨h.os, h.tape, h.output, h.size, h.block⟩
/-- every block but two is as it was -/
def Others (M Tb : Nat) (w w' : World) : Prop := ∀ x, x < w.heap.size → x ≠ M → x ≠ Tb → w'.heap[x]? = w.heap[x]?
/-- a step over a link -/
def useF (F : Nat → Nat → Int) (u v : Nat) : Nat → Nat → Int := if 0 < F v u then updF F v u (F v u - 1) else updF F u v (F u v + 1)

set_option maxHeartbeats 4000000 in
set_option maxRecDepth 100000 in
theorem use_link (B M Tb k n0 : Nat) (rv : Value) (F : Nat → Nat → Int) (t : List Int) (G : Nat → Int) (u v : Nat) (w : World) (h : NetAt w B M Tb rv k F t G) (hu : u < 1000) (hv : v < 1000) (hk : k < 1000000) (hF : ∀ x y, -1000000 ≤ F x y ∧ F x y ≤ 1000000) (hn : n0 ≤ B ∧ n0 ≤ M ∧ n0 ≤ Tb) :
    Calls Try.prog 71 #[.pointer (some ⟨B, 0, none⟩), .agg #[.int .i64 u, .int .i64 v], .int .i64 0] w
      fun e w' => e = .returned (.tuple #[]) ∧ NetAt w' B M Tb rv (k + 1) (useF F u v) t G ∧ Below n0 w w' ∧ Others M Tb w w' := by
  obtain ⟨W, hW⟩ : ∃ W, W = (w.alloc (.cells #[.int .i64 u, .int .i64 v] 84)).alloc (.cells #[.int .i64 v, .int .i64 u] 84) := ⟨_, rfl⟩
  have hbl : Below w.heap.size w W := by rw [hW]; exact ((Below.refl w.heap.size w).alloc (Nat.le_refl _) _).alloc (by simp) _
  have hNW := h.below hbl
  have e0 : W.cell? ⟨w.heap.size, 0, none⟩ = some (.int .i64 u) := by rw [hW]; simp [go_sem]
  have e1 : W.cell? ⟨w.heap.size, 1, none⟩ = some (.int .i64 v) := by rw [hW]; simp [go_sem]
  have e2 : W.cell? ⟨w.heap.size + 1, 0, none⟩ = some (.int .i64 v) := by rw [hW]; simp [go_sem]
  have e3 : W.cell? ⟨w.heap.size + 1, 1, none⟩ = some (.int .i64 u) := by rw [hW]; simp [go_sem]
  have HB := Lib.hid hbl
  have HN := Lib.hid hNW
  have HF := Lib.hid hF
  have HN0 := Lib.hid hn
  have HSZ := Lib.hid (And.intro (heap_lt h.box) (h.flow.lt))
  clear h hbl hNW hF hn
  go_enter Try.func71, Try.ntmps71
  go_upto_region 7 with fail
  rw [← hW]
  clear hW
  have c1 := HN.out.box.c1
  have k0 := kept_cell' e0
  have k1 := kept_cell' e1
  have k2 := kept_cell' e2
  have k3 := kept_cell' e3
  have kc := kept_cell' c1
  have hlk : ∀ x : Kw W.heap.size W, (Instr.lookup 75 (.map (some M)) (.agg #[.int .i64 (v : Int), .int .i64 (u : Int)]) false).run Try.prog x.1 = .ok (.int .i64 (F v u)) x.1 := fun x => (HN.out.flow.below x.2).look hv hu
  clear e0 e1 e2 e3 c1
  have HUF : ∀ (f : Nat → Nat → Int), useF F u v = f → Hid (f = useF F u v) := fun f e => Lib.hid e.symm
  by_cases g : 0 < F v u
  · have gd : decide (0 < F v u) = true := decide_eq_true g
    have HE0 := HUF _ (by rw [useF, if_pos g])
    clear HUF
    refine wp_region_kept W.heap.size W (by kernel_rfl) (by kernel_rfl) (Below.refl _ _) ?_
    repeat (go_big_quiet_step (fail))
    refine wpQuiet_nil ?_
    rintro _ ⟨X, rfl⟩
    obtain ⟨V, hV⟩ : ∃ V, V = X.1 := ⟨_, rfl⟩
    have hX := X.2
    rw [← hV] at hX ⊢
    clear hV X
    have HX := Lib.hid hX
    have m0 := (hX.cell (cell_size (k2 ⟨W, Below.refl _ _⟩))).trans (k2 ⟨W, Below.refl _ _⟩)
    have m1 := (hX.cell (cell_size (k3 ⟨W, Below.refl _ _⟩))).trans (k3 ⟨W, Below.refl _ _⟩)
    have m2 := (hX.cell (cell_size (kc ⟨W, Below.refl _ _⟩))).trans (kc ⟨W, Below.refl _ _⟩)
    clear k0 k1 k2 k3 kc hlk hX
    have HN2 := Lib.hid (HN.out.below HX.out)
    have hb1 := (HF.out v u).1
    have hb2 := (HF.out v u).2
    have hwf : (Lit.int .i64 (F v u - 1)).wf = true := WalkArith.wf_i64 (by omega)
    have hfl : FlowAt V.drew M k F := HN2.out.flow.kept (grown_drew V 1 none) (by simp)
    have l1 := hfl.look hv hu
    obtain ⟨v0, st, W1, W2, r1, r2, l2, hf, hg⟩ := hfl.entry (by unfold maxLen; omega) hv hu hwf
    have HE := Lib.hid (And.intro hf ((grown_drew V 1 _).trans hg))
    clear hwf hfl hf hg
    go_wp2_with fail
    go_region
    all_goals
      go_wp2
      go_end0
      refine ⟨rfl, ?_, ?_, fun x hx hM _ => ?_⟩
      · rw [← HE0.out]; exact HN2.out.turnF HE.out.2 HE.out.1
      · exact ((HB.out.trans (HX.out.mono HB.out.size)).mono (by have := HN0.out; have := HSZ.out; omega)).grown HE.out.2 (by have := HN0.out; have := HSZ.out; have := HB.out.size; have := HX.out.size; omega) (fun j e => by cases e; exact HN0.out.2.1)
      · have h1 := HB.out.block x hx
        have h2 := HX.out.block x (by have := HB.out.size; omega)
        have h3 := HE.out.2.block x (by have := HB.out.size; have := HX.out.size; omega) (fun e => hM (by cases e; rfl))
        exact h3.trans (h2.trans h1)
  · have gd : decide (0 < F v u) = false := decide_eq_false g
    have HE0 := HUF _ (by rw [useF, if_neg g])
    clear HUF
    refine wp_region_kept W.heap.size W (by kernel_rfl) (by kernel_rfl) (Below.refl _ _) ?_
    repeat (go_big_quiet_step (fail))
    refine wpQuiet_nil ?_
    rintro _ ⟨X, rfl⟩
    obtain ⟨V, hV⟩ : ∃ V, V = X.1 := ⟨_, rfl⟩
    have hX := X.2
    rw [← hV] at hX ⊢
    clear hV X
    have HX := Lib.hid hX
    have m0 := (hX.cell (cell_size (k0 ⟨W, Below.refl _ _⟩))).trans (k0 ⟨W, Below.refl _ _⟩)
    have m1 := (hX.cell (cell_size (k1 ⟨W, Below.refl _ _⟩))).trans (k1 ⟨W, Below.refl _ _⟩)
    have m2 := (hX.cell (cell_size (kc ⟨W, Below.refl _ _⟩))).trans (kc ⟨W, Below.refl _ _⟩)
    clear k0 k1 k2 k3 kc hlk hX
    have HN2 := Lib.hid (HN.out.below HX.out)
    have hb1 := (HF.out u v).1
    have hb2 := (HF.out u v).2
    have hwf : (Lit.int .i64 (F u v + 1)).wf = true := WalkArith.wf_i64 (by omega)
    have hfl : FlowAt V.drew M k F := HN2.out.flow.kept (grown_drew V 1 none) (by simp)
    have l1 := hfl.look hu hv
    obtain ⟨v0, st, W1, W2, r1, r2, l2, hf, hg⟩ := hfl.entry (by unfold maxLen; omega) hu hv hwf
    have HE := Lib.hid (And.intro hf ((grown_drew V 1 _).trans hg))
    clear hwf hfl hf hg
    go_wp2_with fail
    go_region
    all_goals
      go_wp2
      go_end0
      refine ⟨rfl, ?_, ?_, fun x hx hM _ => ?_⟩
      · rw [← HE0.out]; exact HN2.out.turnF HE.out.2 HE.out.1
      · exact ((HB.out.trans (HX.out.mono HB.out.size)).mono (by have := HN0.out; have := HSZ.out; omega)).grown HE.out.2 (by have := HN0.out; have := HSZ.out; have := HB.out.size; have := HX.out.size; omega) (fun j e => by cases e; exact HN0.out.2.1)
      · have h1 := HB.out.block x hx
        have h2 := HX.out.block x (by have := HB.out.size; omega)
        have h3 := HE.out.2.block x (by have := HB.out.size; have := HX.out.size; omega) (fun e => hM (by cases e; rfl))
        exact h3.trans (h2.trans h1)

set_option maxHeartbeats 4000000 in
set_option maxRecDepth 100000 in
theorem use_take (B M Tb k n0 : Nat) (rv : Value) (F : Nat → Nat → Int) (t : List Int) (G : Nat → Int) (i : Nat) (y : Int) (o : Int) (w : World) (h : NetAt w B M Tb rv k F t G) (hi : i < t.length) (ht : t.length ≤ 30) (ho : 0 < o) (hn : n0 ≤ B ∧ n0 ≤ M ∧ n0 ≤ Tb) :
    Calls Try.prog 71 #[.pointer (some ⟨B, 0, none⟩), .agg #[.int .i64 ((2 * i + 2 : Nat) : Int), .int .i64 y], .int .i64 o] w
      fun e w' => e = .returned (.tuple #[]) ∧ NetAt w' B M Tb rv k F (t.set i 1) G ∧ Below n0 w w' ∧ Others M Tb w w' := by
  obtain ⟨u, hu⟩ : ∃ u : Nat, u = 2 * i + 2 := ⟨_, rfl⟩
  rw [← hu]
  obtain ⟨W, hW⟩ : ∃ W, W = (w.alloc (.cells #[.int .i64 u, .int .i64 y] 84)).alloc (.cells #[.int .i64 y, .int .i64 u] 84) := ⟨_, rfl⟩
  have hbl : Below w.heap.size w W := by rw [hW]; exact ((Below.refl w.heap.size w).alloc (Nat.le_refl _) _).alloc (by simp) _
  have hNW := h.below hbl
  have e0 : W.cell? ⟨w.heap.size, 0, none⟩ = some (.int .i64 u) := by rw [hW]; simp [go_sem]
  have e1 : W.cell? ⟨w.heap.size, 1, none⟩ = some (.int .i64 y) := by rw [hW]; simp [go_sem]
  have HB := Lib.hid hbl
  have HN := Lib.hid hNW
  have HN0 := Lib.hid hn
  have HSZ := Lib.hid (heap_lt h.taken)
  have HT := Lib.hid ht
  have dv : (u : Int) / 2 - 1 = (i : Int) := by omega
  have u0 : (0 : Int) ≤ (u : Int) := by omega
  have u1 : (u : Int) ≤ 100 := by omega
  have d1 : decide (0 < o) = true := decide_eq_true ho
  clear h hbl hNW hn ht hu
  go_enter Try.func71, Try.ntmps71
  go_upto_region 4 with fail
  rw [← hW]
  clear hW
  have c2 := HN.out.box.c2
  have cT := HN.out.cellT hi
  have fT := HN.out.freeT i
  have i0 : (0 : Int) ≤ (i : Int) := by omega
  have i1 : (i : Int) < (t.length : Int) := by omega
  go_region
  all_goals
    go_wp2
    go_end0
    refine ⟨rfl, (HN.out.below (below_drewN1 W _)).setT i 1, ((HB.out.mono (by have := HN0.out; have := HSZ.out; omega)).drewN' _).setCell HN0.out.2.2 _, fun x hx _ hT => ?_⟩
    exact (Below.heap_setCell _ ⟨Tb, i, none⟩ _ x hT).trans (HB.out.block x hx)

set_option maxHeartbeats 4000000 in
set_option maxRecDepth 100000 in
theorem use_give (B M Tb k n0 : Nat) (rv : Value) (F : Nat → Nat → Int) (t : List Int) (G : Nat → Int) (i : Nat) (y : Int) (o : Int) (w : World) (h : NetAt w B M Tb rv k F t G) (hi : i < t.length) (ht : t.length ≤ 30) (ho : o < 0) (hn : n0 ≤ B ∧ n0 ≤ M ∧ n0 ≤ Tb) :
    Calls Try.prog 71 #[.pointer (some ⟨B, 0, none⟩), .agg #[.int .i64 y, .int .i64 ((2 * i + 2 : Nat) : Int)], .int .i64 o] w
      fun e w' => e = .returned (.tuple #[]) ∧ NetAt w' B M Tb rv k F (t.set i 0) G ∧ Below n0 w w' ∧ Others M Tb w w' := by
  obtain ⟨u, hu⟩ : ∃ u : Nat, u = 2 * i + 2 := ⟨_, rfl⟩
  rw [← hu]
  obtain ⟨W, hW⟩ : ∃ W, W = (w.alloc (.cells #[.int .i64 y, .int .i64 u] 84)).alloc (.cells #[.int .i64 u, .int .i64 y] 84) := ⟨_, rfl⟩
  have hbl : Below w.heap.size w W := by rw [hW]; exact ((Below.refl w.heap.size w).alloc (Nat.le_refl _) _).alloc (by simp) _
  have hNW := h.below hbl
  have e0 : W.cell? ⟨w.heap.size, 1, none⟩ = some (.int .i64 u) := by rw [hW]; simp [go_sem]
  have e1 : W.cell? ⟨w.heap.size, 0, none⟩ = some (.int .i64 y) := by rw [hW]; simp [go_sem]
  have HB := Lib.hid hbl
  have HN := Lib.hid hNW
  have HN0 := Lib.hid hn
  have HSZ := Lib.hid (heap_lt h.taken)
  have HT := Lib.hid ht
  have dv : (u : Int) / 2 - 1 = (i : Int) := by omega
  have u0 : (0 : Int) ≤ (u : Int) := by omega
  have u1 : (u : Int) ≤ 100 := by omega
  have d1 : decide (0 < o) = false := decide_eq_false (by omega)
  have d2 : decide (o < 0) = true := decide_eq_true ho
  clear h hbl hNW hn ht hu
  go_enter Try.func71, Try.ntmps71
  go_upto_region 6 with fail
  rw [← hW]
  clear hW
  have c2 := HN.out.box.c2
  have cT := HN.out.cellT hi
  have fT := HN.out.freeT i
  have i0 : (0 : Int) ≤ (i : Int) := by omega
  have i1 : (i : Int) < (t.length : Int) := by omega
  go_region
  all_goals
    go_wp2
    go_end0
    refine ⟨rfl, (HN.out.below (below_drewN1 W _)).setT i 0, ((HB.out.mono (by have := HN0.out; have := HSZ.out; omega)).drewN' _).setCell HN0.out.2.2 _, fun x hx _ hT => ?_⟩
    exact (Below.heap_setCell _ ⟨Tb, i, none⟩ _ x hT).trans (HB.out.block x hx)
end Go.Proofs.Ytmfonbonfhngnaa.Hand
