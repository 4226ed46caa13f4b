/- Texts of the session's, joined: what HWorks, HRow names of them, in build order (joined and cut by a program of the session's). -/
import Derived.Test.YtcbhnhoicecnnaaDoorProg
import Derived.ArgAppend
import Derived.Below
import Derived.BigQuiet
import Derived.ChangeKeysEq
import Derived.Deep.AppendLies
import Derived.Deep.CutBlock
import Derived.Deep.DeepCutAuto
import Derived.Deep.Draws
import Derived.Deep.LoopGhost
import Derived.Deep.OwnRows
import Derived.Deep.QuietTactic
import Derived.Deep.RegionHeld3
import Derived.Deep.WholeRow
import Derived.DeepKeys
import Derived.DeepKeys4
import Derived.KernelRfl
import Derived.Laws.BitsLemmas
import Derived.Laws.BytesArg
import Derived.Laws.CopyOwn
import Derived.Laws.IdiomCopy
import Derived.Laws.MakeOwn
import Derived.Laws.OwnMore
import Derived.Laws.Rows
import Derived.Laws.Slices
import Derived.Laws.StructEq
import Derived.Laws.Tables
import Derived.Lib.AppendStr
import Derived.Lib.ConvBytes
import Derived.Lib.Hide
import Derived.Lib.SliceRun
import Derived.Maps.AppendAt
import Derived.Maps.OwnOps
import Derived.Maps.OwnSet
import Derived.Maps.RangeWalk
import Derived.OrdersHeld
import Derived.OwnWalk
import Derived.RowKit
import Derived.RowKit3
import Derived.ScopeJumps
import Derived.StillTail
import Derived.Tactics
import Derived.WalkKit
import Derived.WalkMore
import Derived.WideKeyEntry
import Derived.WideLaws
set_option linter.unusedVariables false
set_option linter.unusedSimpArgs false
namespace Go.Proofs.YtcbhnhoicecnnaaDoor.Hand
set_option linter.unusedVariables false
set_option linter.unusedSimpArgs false
open Go.RowKit
def Kw (n : Nat) (w : World) : Type := {v : World // Below n w v}
instance (n : Nat) (w : World) : Nonempty (Kw n w) := ⟨⟨w, Below.refl n w⟩⟩
theorem wp_region_kept {P : Program} {id : Nat} {Q : Exit → Act → World → Prop} {a : Act} {w : World} {l : List Oper} (n : Nat) (w0 : World) (hm : P.follows .mixedOrders = true) (hB : Region.lexB .any l.toArray = true) (hb : Below n w0 w)
    (h : wpQuiet P l.toArray (fun w' => ∃ x : Kw n w0, w' = x.1) (fun a' => ∀ w', (∃ x : Kw n w0, w' = x.1) → Q .normal a' w') l a) : (Code.region id l.toArray true).wp P Q a w :=
  wp_region_quiet (C := fun w' => ∃ x : Kw n w0, w' = x.1) hm hB ⟨⟨_, hb.drew⟩, rfl⟩ (by simpa using h)
theorem kept_calls {P : Program} {n : Nat} {w0 : World} {f : FuncId} {args : Array Value} {v : Value} (x : Kw n w0) (hn : n ≤ w0.heap.size)
    (h : Calls P f args x.1 fun e w' => e = .returned v ∧ Below x.1.heap.size x.1 w') : Calls P f args x.1 fun e w'' => e = .returned v ∧ ∃ y : Kw n w0, w'' = y.1 :=
  h.mono fun _ w' ⟨h1, h2⟩ => ⟨h1, ⟨⟨w', x.2.trans (h2.mono (Nat.le_trans hn x.2.size))⟩, rfl⟩⟩
theorem kept_cell {n : Nat} {w0 : World} {p : Addr} {v : Value} (hp : p.block < n) (h : w0.cell? p = some v) : ∀ x : Kw n w0, x.1.cell? p = some v :=
  fun x => by rw [x.2.cell hp]; exact h
theorem cell_size {w : World} {p : Addr} {v : Value} (h : w.cell? p = some v) : p.block < w.heap.size := by
  rcases Nat.lt_or_ge p.block w.heap.size with g | g
  · exact g
  · exfalso; simp [World.cell?, Array.getElem?_eq_none g] at h
theorem kept_cell' {w0 : World} {p : Addr} {v : Value} (h : w0.cell? p = some v) : ∀ x : Kw w0.heap.size w0, x.1.cell? p = some v := kept_cell (cell_size h) h
section
variable {P : Program} {md : Region.Mode} {S : World → Prop} {Q : Exit → Act → World → Prop}
theorem wp_region_held_list {l : List Oper} {k id : Nat} {a : Act} {w : World} (hk : l.length = k) (S : World → Prop) (hm : P.follows .mixedOrders = true)
    (h : wpAnyH P .any l.toArray Q S k (Array.replicate k false) a w.drew) : (Code.region id l.toArray true).wp P Q a w := by
  subst hk
  exact wp_region_held hm h
theorem held_now {w w' : World} (h : Below w.heap.size w w') {p : Addr} {v : Value} (hc : w.cell? p = some v) : w'.cell? p = some v := by rw [h.cell (cell_size hc)]; exact hc
theorem take_list {l : List Oper} {i : Nat} {oi : Oper} {v : Value} {fuel : Nat} {listed : Array Bool} {a : Act} {w : World} (hi : l[i]? = some oi)
    (hs : Region.noSelect l.toArray = true) (hf : Region.free md l.toArray listed i = true) (hr : (Region.ready md l.toArray listed).contains i = true) (hQ : ∀ c a w, Q (.panic c) (a.put oi.dst v) w → Q (.panic c) a w)
    (hw : Region.wanted oi (yielded l.toArray a.tmps) = true) (hy : ∀ w, S w → (execOp a.eval oi).run P w = .ok (.value v) w) (hS : S w)
    (h : wpAnyH P md l.toArray Q S fuel (listed.setIfInBounds i true) (a.put oi.dst v) w) : wpAnyH P md l.toArray Q S (fuel + 1) listed a w :=
  wpAnyH_take (by simpa using hi) hs hf hr hQ (Or.inl ⟨hw, hy⟩) hS h
theorem tk {l : List Oper} (i : Nat) {oi : Oper} (v : Value) {fuel : Nat} {listed : Array Bool} {a : Act} {w : World} (hi : l[i]? = some oi)
    (hy : ∀ w, S w → (execOp a.eval oi).run P w = .ok (.value v) w) (hS : S w) (h : wpAnyH P md l.toArray Q S fuel (listed.setIfInBounds i true) (a.put oi.dst v) w)
    (hs : Region.noSelect l.toArray = true := by kernel_rfl) (hf : Region.free md l.toArray listed i = true := by kernel_rfl) (hr : (Region.ready md l.toArray listed).contains i = true := by kernel_rfl)
    (hQ : ∀ c a w, Q (.panic c) (a.put oi.dst v) w → Q (.panic c) a w := by exact fun _ _ _ h => h) (hw : Region.wanted oi (yielded l.toArray a.tmps) = true := by rfl) : wpAnyH P md l.toArray Q S (fuel + 1) listed a w :=
  take_list hi hs hf hr hQ hw hy hS h
theorem step_list {l : List Oper} {i : Nat} {o : Oper} {fuel : Nat} {listed : Array Bool} {a : Act} {w : World} (hr : Region.ready md l.toArray listed = [i]) (hi : l[i]? = some o) (hw : Region.wanted o (yielded l.toArray a.tmps) = true)
    (h : ∀ K : Act → World → Prop, (∀ a w, S w → wpAnyH P md l.toArray Q S fuel (listed.setIfInBounds i true) a w → K a w) → Oper.wp P o a w K Q) : wpAnyH P md l.toArray Q S (fuel + 1) listed a w :=
  wpAnyH_ready hr (by simp) (AllReadyH.cons (by simpa using hi) (fun K hK => by rw [if_pos hw]; exact h K (fun a w hS hh => hK a w hS (fun _ => hh))) AllReadyH.nil)
end
theorem step2_list {P : Program} {md : Region.Mode} {S : World → Prop} {Q : Exit → Act → World → Prop} {l : List Oper} {i j : Nat} {o o2 : Oper} {fuel : Nat} {listed : Array Bool} {a : Act} {w : World} (hr : Region.ready md l.toArray listed = [i, j]) (hi : l[i]? = some o) (hj : l[j]? = some o2)
    (hw : Region.wanted o (yielded l.toArray a.tmps) = true) (hw2 : Region.wanted o2 (yielded l.toArray a.tmps) = true)
    (h : ∀ K : Act → World → Prop, (∀ a w, S w → wpAnyH P md l.toArray Q S fuel (listed.setIfInBounds i true) a w → K a w) → Oper.wp P o a w K Q)
    (h2 : ∀ K : Act → World → Prop, (∀ a w, S w → wpAnyH P md l.toArray Q S fuel (listed.setIfInBounds j true) a w → K a w) → Oper.wp P o2 a w K Q) : wpAnyH P md l.toArray Q S (fuel + 1) listed a w :=
  wpAnyH_ready hr (by simp) (AllReadyH.cons (by simpa using hi) (fun K hK => by rw [if_pos hw]; exact h K (fun a w hS hh => hK a w hS (fun _ => hh))) (AllReadyH.cons (by simpa using hj) (fun K hK => by rw [if_pos hw2]; exact h2 K (fun a w hS hh => hK a w hS (fun _ => hh))) AllReadyH.nil))
section
variable {P : Program} {ops : Array Oper} {md : Region.Mode} {C : World → Prop}
def headQ (P : Program) (md : Region.Mode) (ops : Array Oper) (C : World → Prop) (n : Nat) (L : Array Bool → Act → Prop) : Nat → Array Bool → Act → Prop
  | 0, listed, a => L listed a
  | f + 1, listed, a => Region.ready md ops listed ≠ [] ∧ ∀ i ∈ Region.ready md ops listed, i < n ∧ qOp P ops C i (headQ P md ops C n L f (listed.setIfInBounds i true)) a
theorem any_of_headQ {n g : Nat} {L : Array Bool → Act → Prop} {Q' : Exit → Act → World → Prop} (hL : ∀ listed a w, C w → L listed a → wpAny P md ops Q' g listed a w) :
    ∀ (f : Nat) (listed : Array Bool) (a : Act) (w : World), C w → headQ P md ops C n L f listed a → wpAny P md ops Q' (f + g) listed a w
  | 0, listed, a, w, hw, h => by rw [Nat.zero_add]; exact hL _ _ _ hw h
  | f + 1, listed, a, w, hw, h => by
    rw [show f + 1 + g = (f + g) + 1 by omega]
    exact ⟨fun h0 => absurd h0 h.1, fun i hi => wpOp_of_qOp hw (fun a' w' hw' h' => any_of_headQ hL f _ a' w' hw' h') (h.2 i hi).2⟩
theorem headQ_first {n i : Nat} {oi : Oper} {v : Value} {L : Array Bool → Act → Prop} (hi : ops[i]? = some oi) (hsel : ∀ (j : Nat) (o : Oper) cs b, ops[j]? = some o → o.op ≠ .select cs b)
    (hs : Region.sinkB md ops n = true) (hc : Region.chainB md ops n = true) (hn : n < ops.size) (hin : i < n)
    (hdone : ∀ listed a, L listed a → ∀ j ∈ Region.ready md ops listed, n ≤ j) :
    ∀ (f : Nat) (listed : Array Bool) (a : Act), HeadInv md ops n listed →
      (∀ j oj, ops[j]? = some oj → j ≠ i → listed.getD j true = false → (∀ e ∈ oj.after, Region.binds md e = true → e.on ≠ i) → oi.apart ops oj = true) →
      i ∈ Region.ready md ops listed → YieldsIn P ops C oi v a →
      headQ P md ops C n L f (listed.setIfInBounds i true) (a.put oi.dst v) → headQ P md ops C n L (f + 1) listed a := by
  intro f
  induction f with
  | zero =>
    intro listed a inv _ hr hy H
    have hun := (mem_ready.1 hr).1
    refine ⟨fun h => (by rw [h] at hr; cases hr), fun j hj => ?_⟩
    have hjn : j < n := by
      rcases Nat.lt_or_ge j n with h | h
      · exact h
      · exact absurd hj (tail_waits hs hc hn inv _ i rfl hin hun j h)
    refine ⟨hjn, ?_⟩
    by_cases hji : j = i
    · subst hji; exact hy.qOp hi H
    · have := hdone _ _ H j (ready_mono hj hji)
      omega
  | succ f ih =>
    intro listed a inv hfree hr hy H
    have hun := (mem_ready.1 hr).1
    refine ⟨fun h => (by rw [h] at hr; cases hr), fun j hj => ?_⟩
    have hjn : j < n := by
      rcases Nat.lt_or_ge j n with h | h
      · exact h
      · exact absurd hj (tail_waits hs hc hn inv _ i rfl hin hun j h)
    refine ⟨hjn, ?_⟩
    by_cases hji : j = i
    · subst hji; exact hy.qOp hi H
    · have h1 := (H.2 j (ready_mono hj hji)).2
      obtain ⟨hjun, oj, hoj, hall⟩ := mem_ready.1 hj
      have hnot : ∀ e ∈ oj.after, Region.binds md e = true → e.on ≠ i := fun e he hb heq => by
        have h1 := hall e he hb
        rw [heq, getD_both hun] at h1
        cases h1
      have h2 := qOp_put hoj (hfree j oj hoj hji hjun hnot) (fun cs b => hsel i oi cs b hi) (fun cs b => hsel j oj cs b hoj) hy h1
      have hfree' : ∀ k ok, ops[k]? = some ok → k ≠ i → (listed.setIfInBounds j true).getD k true = false →
          (∀ e ∈ ok.after, Region.binds md e = true → e.on ≠ i) → oi.apart ops ok = true := fun k ok hk hki hun hno => by
        refine hfree k ok hk hki ?_ hno
        by_cases hjk : j = k
        · subst hjk; exact hjun
        · rw [getD_set_ne true hjk] at hun; exact hun
      refine qOp_mono (fun a' h3 => ih (listed.setIfInBounds j true) a' (inv.set hj hjn) hfree' (ready_mono hr (Ne.symm hji)) h3.1 ?_) h2
      rw [Array.setIfInBounds_comm _ _ hji]
      exact h3.2
theorem headQ_lex {n g : Nat} {Lq : Act → Prop} (hsel : Region.noSelect ops = true) (hs : Region.sinkB md ops n = true) (hc : Region.chainB md ops n = true) (hn : n < ops.size) :
    ∀ (l : List Oper) (k : Nat) (listed : Array Bool) (a : Act), (∀ j, j < l.length → l[j]? = ops[k + j]?) → k + l.length = n → HeadInv md ops n listed →
    Region.lexHead md ops g l.length k listed = true → wpQuiet P ops C Lq l a →
    headQ P md ops C n (fun listed' a' => Region.seqB md ops g n listed' = true ∧ Lq a') l.length listed a
  | [], k, listed, a, _, hk, _, hB, h => by
    have : k = n := by simpa using hk
    subst this
    exact ⟨by simpa [Region.lexHead] using hB, h⟩
  | o :: l, k, listed, a, hl, hk, inv, hB, h => by
    have h0 : ops[k]? = some o := by simpa using (hl 0 (by simp)).symm
    simp only [List.length_cons, Region.lexHead, Bool.and_eq_true] at hB
    obtain ⟨⟨hr, hf⟩, hB'⟩ := hB
    have hkn : k < n := by simp only [List.length_cons] at hk; omega
    have hr' : k ∈ Region.ready md ops listed := by simpa using hr
    have hst : qOp P ops C k (wpQuiet P ops C Lq l) a := by unfold qOp; simp only [h0]; exact h
    obtain ⟨v, hy, hK⟩ := yieldsIn_of_qOp h0 hst
    exact headQ_first h0 (Region.noSelect_spec hsel) hs hc hn hkn (fun listed' a' hL => seqB_ready hL.1) l.length listed a inv (Region.free_spec h0 hf) hr' hy
      (headQ_lex hsel hs hc hn l (k + 1) _ _ (fun j hj => by have := hl (j + 1) (by simp; omega); simpa [Nat.add_assoc, Nat.add_comm 1 j] using this) (by simp only [List.length_cons] at hk; omega) (inv.set hr' hkn) hB' hK)
theorem wp_region_quiet_tail {id : Nat} {Q : Exit → Act → World → Prop} {a : Act} {w : World} {l : List Oper} (n : Nat) (hm : P.follows .mixedOrders = true) (hB : Region.lexTailB .any l.toArray n = true)
    (hC : C { w with drawn := w.drawn + 1 }) (h : wpQuiet P l.toArray C (fun a' => ∀ w', C w' → wpList P l.toArray Q (l.drop n) a' w') (l.take n) a) : (Code.region id l.toArray true).wp P Q a w := by
  simp only [Region.lexTailB, Bool.and_eq_true, decide_eq_true_eq] at hB
  obtain ⟨⟨⟨⟨hsel, hn⟩, hs⟩, hc⟩, hlex⟩ := hB
  have hn' : n < l.length := by simpa using hn
  have htl : (l.take n).length = n := by simp; omega
  have hdl : (l.drop n).length = l.toArray.size - n := by simp
  have inv0 : HeadInv .any l.toArray n (Array.replicate l.toArray.size false) :=
    ⟨by simp, fun j oj _ hl => (by rw [getD_replicate_false] at hl; cases hl), fun t _ ht => getD_in (by simpa using ht) (getD_replicate_false _ _)⟩
  have H := headQ_lex (md := .any) (g := l.toArray.size - n) hsel hs hc hn (l.take n) 0 _ a (fun j hj => by
    have hj' : j < n := by rw [htl] at hj; exact hj
    simp [hj']) (by simpa using htl) inv0 (by rw [htl]; exact hlex) h
  refine wp_region_any hm ?_
  have := any_of_headQ (Q' := Q) (g := l.toArray.size - n) (fun listed a' w' hw' hL => by
    have := wpAny_of_seq (md := .any) (Q' := Q) (l.drop n) n listed a' w' (fun j => by simp [List.getElem?_drop]) (by rw [hdl]; exact hL.1) (hL.2 w' hw')
    rwa [hdl] at this) _ _ _ _ hC H
  rw [htl, show n + (l.toArray.size - n) = l.toArray.size by omega] at this
  exact this
end
theorem wp_region_kept_tail {P : Program} {id : Nat} {Q : Exit → Act → World → Prop} {a : Act} {w : World} {l : List Oper} (n : Nat) (B : Nat) (w0 : World) (hm : P.follows .mixedOrders = true) (hB : Region.lexTailB .any l.toArray n = true) (hb : Below B w0 w)
    (h : wpQuiet P l.toArray (fun w' => ∃ x : Kw B w0, w' = x.1) (fun a' => ∀ w', (∃ x : Kw B w0, w' = x.1) → wpList P l.toArray Q (l.drop n) a' w') (l.take n) a) : (Code.region id l.toArray true).wp P Q a w :=
  wp_region_quiet_tail (C := fun w' => ∃ x : Kw B w0, w' = x.1) n hm hB ⟨⟨_, hb.drew⟩, rfl⟩ h
end Go.Proofs.YtcbhnhoicecnnaaDoor.Hand
namespace Go.Proofs.YtcbhnhoicecnnaaDoor.Hand
set_option linter.unusedVariables false
set_option linter.unusedSimpArgs false
open Go.RowKit Go.Maps
theorem laidOut : laidOutB Tryd.prog = true := by kernel_rfl
def pairKey (x y : Int) : Lit := .string (keyBytes [.int .i64 x, .int .i64 y])
theorem pair_desc : (match Tryd.prog.underlying 92 with | some (.struct fs) => fs.size == 2 && ((match fs[0]? with | some f => f.type == 3 && f.offset == 0 && f.name != "_" | _ => false) && (match fs[1]? with | some f => f.type == 3 && f.offset == 1 && f.name != "_" | _ => false)) | _ => false) = true := by kernel_rfl
theorem pair_fields : ∃ f g : Field, Tryd.prog.underlying 92 = some (.struct #[f, g]) ∧ (f.type = 3 ∧ f.offset = 0 ∧ (f.name != "_") = true) ∧ (g.type = 3 ∧ g.offset = 1 ∧ (g.name != "_") = true) := by
  have h := pair_desc
  split at h
  · rename_i fs he
    rw [Bool.and_eq_true, Bool.and_eq_true] at h
    obtain ⟨h1, h2, h3⟩ := h
    have hs : fs.size = 2 := by simpa using h1
    split at h2
    · rename_i f hf
      split at h3
      · rename_i g hg
        simp only [Bool.and_eq_true, beq_iff_eq] at h2 h3
        refine ⟨f, g, ?_, ⟨h2.1.1, h2.1.2, h2.2⟩, ⟨h3.1.1, h3.1.2, h3.2⟩⟩
        have ha : fs = #[f, g] := by
          apply Array.ext
          · simpa using hs
          · intro i h1 h2
            have : i = 0 ∨ i = 1 := by omega
            rcases this with rfl | rfl
            · simpa [Array.getElem?_eq_getElem h1] using hf
            · simpa [Array.getElem?_eq_getElem h1] using hg
        exact he.trans (congrArg (fun a => some (TypeDesc.struct a)) ha)
      · cases h3
    · cases h2
  · cases h
theorem pair_size : Tryd.prog.cellsOf 92 = 2 := by kernel_rfl
theorem pair_int_size : Tryd.prog.cellsOf 3 = 1 := by kernel_rfl
theorem pair_type : Tryd.prog.keyType 92 = true := by kernel_rfl
theorem pair_many : ∃ n, Tryd.prog.types.size = n + 1 := ⟨Tryd.prog.types.size - 1, by have : 92 < Tryd.prog.types.size := of_decide_eq_true (by kernel_rfl); omega⟩
def lit1 (c : Value) : Option (List Lit) := match c with | .int .i64 x => if (Lit.int .i64 x).wf = true then some [.int .i64 x] else none | _ => none
theorem lit1_some {c : Value} {l : List Lit} (h : lit1 c = some l) : ∃ x, c = .int .i64 x ∧ (Lit.int .i64 x).wf = true ∧ l = [.int .i64 x] := by
  unfold lit1 at h
  split at h
  · rename_i x
    split at h
    · rename_i hw
      exact ⟨x, rfl, hw, (Option.some.inj h).symm⟩
    · cases h
  · cases h
theorem lit1_int {x : Int} (h : (Lit.int .i64 x).wf = true) : lit1 (.int .i64 x) = some [.int .i64 x] := by simp [lit1, h]
theorem int_lits (d : Nat) (c : Value) : Tryd.prog.keyLits (d + 1) 3 [c] = lit1 c := by
  have hi : Tryd.prog.underlying 3 = some (.int .i64) := Tryd.underlying3
  unfold Program.keyLits lit1
  rw [hi]
  cases c <;> simp
  rename_i q a
  cases q <;> simp
theorem pair_lits (d : Nat) (cs : List Value) (ls : List Lit) : Tryd.prog.keyLits (d + 2) 92 cs = some ls ↔ ∃ x y, cs = [.int .i64 x, .int .i64 y] ∧ (Lit.int .i64 x).wf = true ∧ (Lit.int .i64 y).wf = true ∧ ls = [.int .i64 x, .int .i64 y] := by
  obtain ⟨f, g, hf, ⟨ht, ho, hn⟩, ⟨gt, go, gn⟩⟩ := pair_fields
  unfold Program.keyLits
  rw [hf]
  simp only [pair_size]
  by_cases hl : cs.length = 2
  · obtain ⟨c, c', rfl⟩ : ∃ c c', cs = [c, c'] := by
      match cs, hl with
      | [c, c'], _ => exact ⟨c, c', rfl⟩
    simp only [hn, ht, ho, gn, gt, go, pair_int_size, List.length_cons, List.length_nil, Array.all_eq_true]
    have hall : ∀ (i : Nat) (x : i < 2), ¬ ([f, g][i]).name = "_" := by
      intro i hi
      have : i = 0 ∨ i = 1 := by omega
      rcases this with rfl | rfl
      · simpa using hn
      · simpa using gn
    simp [hn, ht, ho, gn, gt, go, pair_int_size, int_lits]
    constructor
    · intro h
      replace h := h.2
      cases hc : lit1 c
      · rw [hc] at h; simp at h
      · cases hc' : lit1 c'
        · rw [hc, hc'] at h; simp at h
        · rw [hc, hc'] at h
          obtain ⟨x, rfl, hx, rfl⟩ := lit1_some hc
          obtain ⟨y, rfl, hy, rfl⟩ := lit1_some hc'
          simp at h
          exact ⟨x, y, ⟨rfl, rfl⟩, hx, hy, h.symm⟩
    · rintro ⟨x, y, ⟨rfl, rfl⟩, h1, h2, rfl⟩
      refine ⟨hall, ?_⟩
      rw [lit1_int h1, lit1_int h2]; simp
  · simp [hl]
    intro x y hx
    subst hx
    simp at hl
theorem pair_key {x y : Int} (hw : (Lit.int .i64 x).wf = true) (hv : (Lit.int .i64 y).wf = true) : keyOf Tryd.prog 92 (.agg #[.int .i64 x, .int .i64 y]) = some (pairKey x y) := by
  obtain ⟨f, g, hf, _⟩ := pair_fields
  obtain ⟨n, hn⟩ := pair_many
  have hl := (pair_lits n [.int .i64 x, .int .i64 y] [.int .i64 x, .int .i64 y]).2 ⟨x, y, rfl, hw, hv, rfl⟩
  unfold keyOf
  rw [hf]
  simp [pair_type, Value.formed, hf, pair_size, hn, Value.cells, hl, pairKey]
end Go.Proofs.YtcbhnhoicecnnaaDoor.Hand
namespace Go.Proofs.YtcbhnhoicecnnaaDoor.Hand
set_option linter.unusedVariables false
set_option linter.unusedSimpArgs false
open Go.RowKit
section
variable {P : Program}
def ovr (cs : Array Value) : Nat → List Value → Array Value
  | _, [] => cs
  | o, v :: r => ovr (cs.setIfInBounds o v) (o + 1) r
theorem ovr_get : ∀ (vs : List Value) (cs : Array Value) (o j : Nat), o + vs.length ≤ cs.size → (ovr cs o vs)[j]? = if o ≤ j ∧ j < o + vs.length then vs[j - o]? else cs[j]?
  | [], cs, o, j, _ => by rw [ovr, if_neg (by simp)]
  | v :: r, cs, o, j, h => by
    rw [ovr, ovr_get r _ (o + 1) j (by simp at h ⊢; omega)]
    simp only [List.length_cons] at h ⊢
    by_cases h1 : o + 1 ≤ j ∧ j < o + 1 + r.length
    · rw [if_pos h1, if_pos (by omega), show j - o = (j - (o + 1)) + 1 by omega, List.getElem?_cons_succ]
    · rw [if_neg h1]
      by_cases h2 : j = o
      · subst h2
        rw [if_pos (by omega), Nat.sub_self, Array.getElem?_setIfInBounds, if_pos rfl, if_pos (by omega)]; rfl
      · rw [if_neg (by omega), Array.getElem?_setIfInBounds, if_neg (by omega)]
theorem setRow_same (w : World) (b : Nat) (cs : Array Value) (t : TypeId) (fr : Nat × Nat) (h : w.heap[b]? = some (.cells cs t fr)) : w.setRow b cs = w := by
  have hh : (w.setRow b cs).heap = w.heap := by
    apply Array.ext_getElem?
    intro i
    by_cases e : i = b
    · subst e; rw [setRow_heap w i cs cs t fr h, h]
    · rw [setRow_other w b i cs e]
  exact congrArg (fun x : Array Obj => ({ w with heap := x } : World)) hh
theorem setCells_row : ∀ (vs : List Value) (w : World) (b o : Nat) (cs : Array Value) (t : TypeId) (fr : Nat × Nat), w.heap[b]? = some (.cells cs t fr) → w.setCells b o vs = w.setRow b (ovr cs o vs)
  | [], w, b, o, cs, t, fr, h => (setRow_same w b cs t fr h).symm
  | v :: r, w, b, o, cs, t, fr, h => by
    rw [World.setCells, setCell_eq_setRow w b o cs t fr v h, setCells_row r _ b (o + 1) (cs.setIfInBounds o v) t fr (setRow_heap w b cs _ t fr h), setRow_setRow, ovr]
theorem run_clear_row (w : World) (t e ty : TypeId) (z : Value) (ht : P.underlying t = some (.slice e)) (hv : ∀ w, (zeroValue e).run P w = .ok z w) (hz : z.cells = #[z]) (h1 : z.oneCell' = true)
    (b n c : Nat) (hn : 0 < n) (cs : Array Value) (T : TypeId) (hb : w.heap[b]? = some (.cells cs T (0, 0))) (hs : cs.size = n) :
    (Builtin.clear_ #[t] ty #[.slice (some ⟨b, 0, none⟩) n c]).run P w = .ok (.tuple #[]) (w.setRow b (Array.replicate n z)) := by
  rw [Lib.run_clear_slice w t e ty z ht hv hz h1 b 0 n c hn (fun j hj => by rw [Nat.zero_add, cell_of_row w b j cs T (0, 0) hb, Array.getElem?_eq_getElem (by omega)]; rfl) (fun j hj => frozen_of_row w b _ cs T hb)]
  rw [setCells_row _ w b 0 cs T (0, 0) hb]
  congr 2
  apply Array.ext_getElem?
  intro j
  rw [ovr_get _ _ _ _ (by simp; omega)]
  by_cases h : j < n
  · rw [if_pos (by simp; omega)]
    simp [h]
  · rw [if_neg (by simp; omega), Array.getElem?_eq_none (by omega), Array.getElem?_eq_none (by simp; omega)]
theorem run_index_agg (w : World) {T E : TypeId} {n i : Nat} {k : IntKind} {cs : Array Value} {v : Value} (hu : P.underlying T = some (.array n E)) (he : P.plainKey E = true) (hc : P.cellsOf E = 1) (hi : i < n) (hv : cs[i]? = some v) :
    (Instr.index T (.agg cs) (.int k (i : Int))).run P w = .ok v w := by
  have hE : ∃ j, P.info? E = some j := by
    unfold Program.plainKey at he
    cases hq : P.underlying E with
    | none => simp [hq] at he
    | some d => exact info_of_underlying hq
  obtain ⟨j, hj⟩ := hE
  have h2 : ((0 : Int) ≤ (i : Int) ∧ (i : Int) < (n : Int)) := by omega
  simp only [Instr.index, asIntOf, run_underlying hu, Sem.run_bind, Sem.run_pure, Result.andThen_ok, if_pos h2, run_sizeOf w hj, hc, Int.toNat_natCast, Nat.mul_one]
  exact run_part_plain w he hv
theorem below_setRow {B : Nat} {a w : World} (h : Below B a w) {g : Nat} (hp : B ≤ g) (cs : Array Value) : Below B a (w.setRow g cs) :=
  h.trans ⟨rfl, rfl, rfl, by simp, fun k hk => setRow_other w g k cs (by omega)⟩
theorem heap_lt {w : World} {g : Nat} {o : Obj} (h : w.heap[g]? = some o) : g < w.heap.size := (Array.getElem?_eq_some_iff.1 h).1
theorem heap_past {w : World} {g : Nat} {o : Obj} (h : w.heap[g]? = some o) (x : Obj) : (w.alloc x).heap[g]? = some o := (Below.heap_alloc w x g (heap_lt h)).trans h
theorem heap_far {w : World} {g : Nat} {o : Obj} (h : w.heap[g]? = some o) {a : Addr} (hn : g ≠ a.block) (v : Value) : (w.setCell a v).heap[g]? = some o := (heap_setCell_other w a g v hn).trans h
theorem run_eqItems_ints (w : World) (d : Nat) {e : TypeId} (he : P.underlying e = some (.int .i64)) (xs ys : Array Value) (f g : Nat → Int) : ∀ is : List Nat, (∀ i ∈ is, xs[i]? = some (.int .i64 (f i))) → (∀ i ∈ is, ys[i]? = some (.int .i64 (g i))) →
    (Op.eqItems (d + 1) e 1 xs ys is).run P w = .ok (is.all fun i => f i == g i) w
  | [], _, _ => by simp [Op.eqItems]
  | i :: is, hx, hy => by
    have hp : P.plainKey e = true := by simp [Program.plainKey, he]
    have h1 := run_part_plain (P := P) w hp (xs := xs) (off := i * 1) (by rw [Nat.mul_one]; exact hx i (by simp))
    have h2 := run_part_plain (P := P) w hp (xs := ys) (off := i * 1) (by rw [Nat.mul_one]; exact hy i (by simp))
    have ih := run_eqItems_ints w d he xs ys f g is (fun j hj => hx j (by simp [hj])) (fun j hj => hy j (by simp [hj]))
    have h3 := run_equalIn_int w d e .i64 .i64 (f i) (g i) he
    simp only [Op.eqItems, Sem.run_bind, h1, h2, h3, Result.andThen_ok, List.all_cons]
    cases f i == g i
    · simp
    · simpa using ih
theorem run_eql_array (w : World) {T e : TypeId} {n : Nat} (hu : P.underlying T = some (.array n e)) (he : P.underlying e = some (.int .i64)) (hc : P.cellsOf e = 1) (xs ys : Array Value) (f g : Nat → Int)
    (hx : ∀ i, i < n → xs[i]? = some (.int .i64 (f i))) (hy : ∀ i, i < n → ys[i]? = some (.int .i64 (g i))) :
    (binOp .eql T (.agg xs) (.agg ys)).run P w = .ok (.bool ((List.range n).all fun i => f i == g i)) w := by
  obtain ⟨i, hi⟩ := info_of_underlying he
  have h := run_equalIn_array w 9999 xs ys hu hi
  rw [hc, run_eqItems_ints w 9998 he xs ys f g _ (fun i hi => hx i (List.mem_range.1 hi)) (fun i hi => hy i (List.mem_range.1 hi))] at h
  simp only [binOp, Op.equal, Op.maxDepth, Sem.run_bind, h, Result.andThen_ok]
  rfl
end
end Go.Proofs.YtcbhnhoicecnnaaDoor.Hand
section
set_option linter.unusedVariables false
set_option linter.unusedSimpArgs false
namespace Go.Proofs.YtcbhnhoicecnnaaDoorW.PrintWords
open Go.RowKit
structure Aside0 (p : Prop) : Prop where mk :: (out : p)
structure Drawn0 (w w' : World) : Prop where mk :: (out : ∃ n, w' = w.drewN n)
theorem Drawn0.refl (w : World) : Drawn0 w w := ⟨⟨0, rfl⟩⟩
theorem Drawn0.step {w w' : World} (h : Drawn0 w w') (n : Nat) : Drawn0 w (w'.drewN n) := by
  obtain ⟨m, rfl⟩ := h
  exact ⟨⟨m + n, World.drewN_drewN ..⟩⟩
theorem Drawn0.grown {w w' : World} (h : Drawn0 w w') : Grown w w' := by
  obtain ⟨n, rfl⟩ := h
  induction n with
  | zero => exact Grown.refl _
  | succ n ih => rw [← World.drew_drewN]; exact Grown.drew ih
theorem Drawn0.below {w w' : World} (h : Drawn0 w w') : Below w.heap.size w w' := by
  obtain ⟨n, rfl⟩ := h
  induction n with
  | zero => exact Below.refl _ _
  | succ n ih => rw [← World.drew_drewN]; exact ih.drew
def rd (xs : List Int) (i : Int) : Int := xs.getD i.toNat 0
def nums (k : IntKind) (xs : List Int) : List Value := xs.map fun x => .int k x
theorem below_alloc {w W : World} (h : Below w.heap.size w W) (o : Obj) : Below w.heap.size w (W.alloc o) := h.alloc h.size o
theorem below_drew {B : Nat} {w W : World} (h : Below B w W) : Below B w W.drew := ⟨h.os, h.tape, h.output, h.size, h.block⟩
theorem pw_below_drewN {B : Nat} {w W : World} (h : Below B w W) (n : Nat) : Below B w (W.drewN n) := ⟨h.os, h.tape, h.output, h.size, h.block⟩
theorem below_then {B : Nat} {w w1 w2 : World} (h : Below B w w1) (hB : B ≤ w1.heap.size) (k : Below w1.heap.size w1 w2) : Below B w w2 :=
  h.trans ⟨k.os, k.tape, k.output, k.size, fun i hi => k.block i (Nat.lt_of_lt_of_le hi hB)⟩
theorem grown_of_below {w w1 : World} (h : Below w.heap.size w w1) (row : Option Nat) : w.grownBy w1 row := ⟨h.os, h.tape, h.output, h.size, fun i hi _ => h.block i hi⟩
theorem pw_cell_below {w w1 : World} (h : Below w.heap.size w w1) {a : Addr} {v : Value} (hc : w.cell? a = some v) : w1.cell? a = some v := (h.cell (World.block_lt_of_cell? w a hc)).trans hc
theorem add_plain (g j : Nat) : (⟨g, 0, none⟩ : Addr).add j = ⟨g, j, none⟩ := by unfold Addr.add; split <;> simp_all
def ReadsInt (w : World) (k : IntKind) (A : Option Addr) (n : Nat) (xs : List Int) : Prop :=
  xs.length = n ∧ n ≤ 9223372036854775807 ∧ (0 < n → ∃ ad, A = some ad ∧ ∀ j, j < n → w.cell? (ad.add j) = some (.int k (xs.getD j 0)))
theorem ReadsInt.at_ {w : World} {k : IntKind} {A : Option Addr} {n : Nat} {xs : List Int} (h : ReadsInt w k A n xs) (i : Int) (h0 : 0 ≤ i) (h1 : i < n) : ∃ ad, A = some ad ∧ w.cell? (ad.add i.toNat) = some (.int k (rd xs i)) := by
  obtain ⟨ad, e, hc⟩ := h.2.2 (by omega)
  exact ⟨ad, e, hc _ (by omega)⟩
theorem ReadsInt.below {w w1 : World} {k : IntKind} {A : Option Addr} {n : Nat} {xs : List Int} (h : ReadsInt w k A n xs) (hb : Below w.heap.size w w1) : ReadsInt w1 k A n xs :=
  ⟨h.1, h.2.1, fun hn => by
    obtain ⟨ad, e, hc⟩ := h.2.2 hn
    exact ⟨ad, e, fun j hj => pw_cell_below hb (hc j hj)⟩⟩
theorem own_base {w : World} {base : Nat} {e : TypeId} {size n : Nat} {v : Value} {xs : List Value} (h : w.ownsRow base e size v n xs) (k : Nat) (hk : v.ownBlock = some k) : base ≤ k := by
  rcases h.2 with ⟨rfl, _⟩ | ⟨g, cap, cur, rfl, hb, _⟩
  · simp [Value.ownBlock] at hk
  · have : g = k := by simpa [Value.ownBlock] using hk
    omega
theorem own_lt {w : World} {base : Nat} {e : TypeId} {size n : Nat} {v : Value} {xs : List Value} (h : w.ownsRow base e size v n xs) (k : Nat) (hk : v.ownBlock = some k) : k < w.heap.size := by
  rcases h.2 with ⟨rfl, _⟩ | ⟨g, cap, cur, rfl, hb, hh, _⟩
  · simp [Value.ownBlock] at hk
  · have : g = k := by simpa [Value.ownBlock] using hk
    subst this
    exact (Array.getElem?_eq_some_iff.1 hh).1
theorem pw_own_below {w w1 : World} {base : Nat} {e : TypeId} {size n : Nat} {v : Value} {xs : List Value} (h : w.ownsRow base e size v n xs) (hb : Below w.heap.size w w1) : w1.ownsRow base e size v n xs :=
  h.kept (grown_of_below hb none) (by cases v.ownBlock <;> simp)
theorem own_other {w w1 : World} {base : Nat} {e : TypeId} {size n : Nat} {v : Value} {xs : List Value} (h : w.ownsRow base e size v n xs) {row : Option Nat} (hg : w.grownBy w1 row) (hne : v.ownBlock = none ∨ v.ownBlock ≠ row) : w1.ownsRow base e size v n xs := h.kept hg hne
theorem own_reads {w : World} {base n : Nat} {e : TypeId} {k : IntKind} {v : Value} {xs : List Int} (h : w.ownsRow base e 1 v n (nums k xs)) : ∃ A c, v = .slice A n c ∧ ReadsInt w k A n xs := by
  have hl : xs.length = n := by have := h.1; simp [nums] at this; exact this
  rcases Nat.eq_zero_or_pos n with h0 | h0
  · rcases h.2 with ⟨rfl, rfl⟩ | ⟨g, cap, cur, rfl, _⟩
    · exact ⟨none, 0, rfl, hl, by omega, fun hp => absurd hp (by omega)⟩
    · exact ⟨_, cap, rfl, hl, by omega, fun hp => absurd hp (by omega)⟩
  · obtain ⟨g, cap, rfl, _, _⟩ := h.form h0
    have hm : n ≤ 9223372036854775807 := by
      rcases h.2 with ⟨_, h1⟩ | ⟨g', cap', cur, he, _, _, h1, h2, _⟩
      · omega
      · simp only [maxLen] at h2
        omega
    refine ⟨_, cap, rfl, hl, hm, fun _ => ⟨_, rfl, fun j hj => h.cells (g := g) rfl j _ ?_⟩⟩
    simp [nums, List.getElem?_eq_getElem (show j < xs.length by omega), List.getD_eq_getElem?_getD]
section
variable {P : Program} {ops : Array Oper} {rest : List Oper} {o : Oper} {a : Act} {Q : Exit → Act → World → Prop}
end
section
variable {P : Program}
end
section
variable {P : Program} {ops : Array Oper} {rest : List Oper} {o : Oper} {a : Act} {Q : Exit → Act → World → Prop}
end
theorem ReadsInt.take_ {w : World} {k : IntKind} {A : Option Addr} {n : Nat} {xs : List Int} (h : ReadsInt w k A n xs) (i : Nat) (hi : i ≤ n) : ReadsInt w k A i (xs.take i) := by
  refine ⟨by rw [List.length_take, h.1]; omega, by have := h.2.1; omega, fun hp => ?_⟩
  obtain ⟨ad, e, hc⟩ := h.2.2 (by omega)
  refine ⟨ad, e, fun j hj => ?_⟩
  rw [hc j (by omega)]
  simp [List.getD_eq_getElem?_getD, hj]
def Reps {α : Type} (R : α → List Value → Prop) (size : Nat) (ps : List α) (cs : List Value) : Prop :=
  cs.length = ps.length * size ∧ ∀ j p, ps[j]? = some p → R p ((cs.drop (j * size)).take size)
theorem Reps.none {α : Type} (R : α → List Value → Prop) (size : Nat) : Reps R size [] [] := ⟨by simp, fun j p h => by simp at h⟩
theorem Reps.snoc {α : Type} {R : α → List Value → Prop} {size : Nat} {ps : List α} {cs c : List Value} {p : α} (h : Reps R size ps cs) (hp : R p c) (hc : c.length = size) : Reps R size (ps ++ [p]) (cs ++ c) := by
  refine ⟨by rw [List.length_append, h.1, hc, List.length_append, List.length_singleton, Nat.add_mul, Nat.one_mul], fun j q hq => ?_⟩
  rcases Nat.lt_or_ge j ps.length with hj | hj
  · rw [List.getElem?_append_left hj] at hq
    have h1 : j * size + size ≤ cs.length := by rw [h.1, ← Nat.succ_mul]; exact Nat.mul_le_mul_right _ hj
    have h2 := h.2 j q hq
    rw [List.drop_append_of_le_length (by omega), List.take_append_of_le_length (by rw [List.length_drop]; omega)]
    exact h2
  · have hj' : j = ps.length := by
      have := (List.getElem?_eq_some_iff.1 hq).1
      rw [List.length_append, List.length_singleton] at this
      omega
    subst hj'
    have hq' : p = q := by simpa using hq
    subst hq'
    rw [← h.1, List.drop_left, ← hc, List.take_length]
    exact hp
theorem Reps.imp_ {α : Type} {R R' : α → List Value → Prop} {size : Nat} {ps : List α} {cs : List Value} (h : Reps R size ps cs) (hR : ∀ p c, R p c → R' p c) : Reps R' size ps cs := ⟨h.1, fun j p hj => hR _ _ (h.2 j p hj)⟩
def ReadsRow {α : Type} (R : α → List Value → Prop) (size : Nat) (w : World) (A : Option Addr) (n : Nat) (ps : List α) : Prop :=
  ps.length = n ∧ n ≤ 9223372036854775807 ∧ (0 < n → ∃ ad, A = some ad ∧ ∀ j p, ps[j]? = some p → ∃ c, c.length = size ∧ R p c ∧ ∀ i u, c[i]? = some u → w.cell? (ad.add (j * size + i)) = some u)
theorem ReadsRow.get_ {α : Type} {R : α → List Value → Prop} {size : Nat} {w : World} {A : Option Addr} {n : Nat} {ps : List α} (h : ReadsRow R size w A n ps) (d : α) (i : Int) (h0 : 0 ≤ i) (h1 : i < n) :
    ∃ ad c, A = some ad ∧ c.length = size ∧ R (ps.getD i.toNat d) c ∧ ∀ j u, c[j]? = some u → w.cell? (ad.add (i.toNat * size + j)) = some u := by
  obtain ⟨ad, e, hc⟩ := h.2.2 (by omega)
  have hl : i.toNat < ps.length := by have := h.1; omega
  obtain ⟨c, hs, hr, hcell⟩ := hc i.toNat _ (List.getElem?_eq_getElem hl)
  refine ⟨ad, c, e, hs, ?_, hcell⟩
  rw [List.getD_eq_getElem?_getD, List.getElem?_eq_getElem hl]
  exact hr
theorem ReadsRow.imp_ {α : Type} {R R' : α → List Value → Prop} {size : Nat} {w w1 : World} {A : Option Addr} {n : Nat} {ps : List α} (h : ReadsRow R size w A n ps) (hb : Below w.heap.size w w1) (hR : ∀ p c, R p c → R' p c) : ReadsRow R' size w1 A n ps :=
  ⟨h.1, h.2.1, fun hn => by
    obtain ⟨ad, e, hc⟩ := h.2.2 hn
    refine ⟨ad, e, fun j p hj => ?_⟩
    obtain ⟨c, hs, hr, hcell⟩ := hc j p hj
    exact ⟨c, hs, hR _ _ hr, fun i u hu => pw_cell_below hb (hcell i u hu)⟩⟩
theorem own_reads_row {α : Type} {R : α → List Value → Prop} {w : World} {base n size : Nat} {e : TypeId} {v : Value} {ps : List α} {cs : List Value} (h : w.ownsRow base e size v n cs) (hR : Reps R size ps cs) (hn : ps.length = n) :
    ∃ A c, v = .slice A n c ∧ ReadsRow R size w A n ps := by
  rcases Nat.eq_zero_or_pos n with h0 | h0
  · rcases h.2 with ⟨rfl, rfl⟩ | ⟨g, cap, cur, rfl, _⟩
    · exact ⟨none, 0, rfl, hn, by omega, fun hp => absurd hp (by omega)⟩
    · exact ⟨_, cap, rfl, hn, by omega, fun hp => absurd hp (by omega)⟩
  · obtain ⟨g, cap, rfl, _, _⟩ := h.form h0
    have hm : n ≤ 9223372036854775807 := by
      rcases h.2 with ⟨_, h1⟩ | ⟨g', cap', cur, he, _, _, h1, h2, _⟩
      · omega
      · simp only [maxLen] at h2
        omega
    refine ⟨_, cap, rfl, hn, hm, fun _ => ⟨_, rfl, fun j p hj => ⟨(cs.drop (j * size)).take size, ?_, hR.2 j p hj, fun i u hu => ?_⟩⟩⟩
    · have hjl := (List.getElem?_eq_some_iff.1 hj).1
      have h1 : j * size + size ≤ cs.length := by rw [hR.1, ← Nat.succ_mul]; exact Nat.mul_le_mul_right _ hjl
      rw [List.length_take, List.length_drop]
      omega
    · refine h.cells (g := g) rfl _ u ?_
      rw [List.getElem?_take] at hu
      split at hu
      · rw [List.getElem?_drop] at hu
        exact hu
      · cases hu
theorem add_field (ad : Addr) (m j : Nat) (hj : 0 < j) : ad.add (m + j) = ⟨(ad.add m).block, (ad.add m).off + j, none⟩ := by
  unfold Addr.add
  by_cases hm : m = 0
  · subst hm
    simp [Nat.ne_of_gt hj]
  · simp [hm, Nat.add_assoc]
section
variable {P : Program} {ops : Array Oper} {rest : List Oper} {o : Oper} {a : Act} {Q : Exit → Act → World → Prop}
theorem print_append_cells {w0 W : World} (base : Nat) (hgd : o.guard = none) (s x : Operand) (t e : TypeId) (z : Value) (size bytes : Nat)
    (ho : o.op = .call { callee := .builtin .append, args := #[s, x], argTypes := #[t, t] })
    (ht : P.underlying t = some (.slice e)) (hinfo : (P.info? e).map (fun i => (i.zero, i.size, i.bytes)) = some (some z, size, bytes)) (hz : z.cells.size = size) (hs0 : 0 < size) (hb0 : 0 < bytes)
    (v : Value) (n : Nat) (xs ys : List Value) (hs : a.eval s = v) (hx : a.eval x = .slice (some ⟨W.heap.size, 0, none⟩) 1 1) (hys : ys.length = size) (h1 : ∀ u ∈ ys, u.oneCell' = true)
    (HO : W.ownsRow base e size v n xs) (HB : Below base w0 W) (hbase : base ≤ W.heap.size) (hl : (n + 1) * bytes ≤ 140737488355328)
    (h : ∀ v1 w1, w1.ownsRow base e size v1 (n + 1) (xs ++ ys) → Below base w0 w1 → W.grownBy w1 v.ownBlock → (v1.ownBlock = v.ownBlock ∨ ∃ b, v1.ownBlock = some b ∧ W.heap.size ≤ b) → wpList P ops Q rest (a.put o.dst v1) w1) :
    wpList P ops Q (o :: rest) a (W.alloc (.cells ys.toArray e)) := by
  obtain ⟨i0, hi, hzz⟩ := Option.map_eq_some_iff.1 hinfo
  simp only [Prod.mk.injEq] at hzz
  obtain ⟨hz0, hz1, hz2⟩ := hzz
  have hlen : n + 1 ≤ 140737488355328 := Nat.le_trans (Nat.le_mul_of_pos_right _ hb0) hl
  refine wpList_append_own_at (W.alloc (.cells ys.toArray e)) hgd s x t ho base e i0 z size bytes ht hi hz0 hz1 hz2 hz hs0 v n xs hs (HO.alloc _) ⟨W.heap.size, 0, none⟩ 1 1 ys hx (by rw [hys]; simp)
    (by simpa using World.news_of_block (cs := ys.toArray) (t := e) (fr := (0, 0)) (heap_alloc_new W (.cells ys.toArray e))) h1 (by simp only [maxLen]; omega) hl (by simp; omega) ?_
  intro v1 w1 hown hg _ hat
  refine h v1 w1 hown ((HB.alloc hbase _).grown hg (by simp; omega) (own_base HO)) (World.grownBy.trans (World.grownBy_alloc W _ _) hg) ?_
  rcases hat with hat | hat
  · exact .inl hat
  · exact .inr ⟨_, hat, by simp⟩
end
theorem own_ne {w : World} {base : Nat} {e t : TypeId} {size n g : Nat} {v : Value} {xs : List Value} {cs : Array Value} (h : w.ownsRow base e size v n xs) (hg : w.heap[g]? = some (.cells cs t (0, 0))) (hne : e ≠ t) : some g ≠ v.ownBlock := by
  rcases h.2 with ⟨rfl, _⟩ | ⟨g', cap, cur, rfl, _, hh, _⟩
  · simp [Value.ownBlock]
  · intro he
    have : g = g' := by simpa [Value.ownBlock] using he
    subst this
    rw [hg] at hh
    injection hh with hh
    injection hh with _ ht
    exact hne ht.symm
theorem blk_set {w : World} {g : Nat} {t : TypeId} {cs : Array Value} (h : w.heap[g]? = some (.cells cs t (0, 0))) (i : Nat) (u : Value) : (w.setCell ⟨g, i, none⟩ u).heap[g]? = some (.cells (cs.setIfInBounds i u) t (0, 0)) := by
  simp [World.setCell, Array.getElem?_modify, h]
theorem blk_lt {w : World} {g : Nat} {o : Obj} (h : w.heap[g]? = some o) : g < w.heap.size := (Array.getElem?_eq_some_iff.1 h).1
theorem blk_cell {w : World} {g : Nat} {t : TypeId} {cs : Array Value} (h : w.heap[g]? = some (.cells cs t (0, 0))) (i : Nat) : w.cell? ⟨g, i, none⟩ = cs[i]? := cell_of_row w g i cs t (0, 0) h
theorem blk_frozen {w : World} {g : Nat} {t : TypeId} {cs : Array Value} (h : w.heap[g]? = some (.cells cs t (0, 0))) (i : Nat) : w.frozen? ⟨g, i, none⟩ = false := by simp [World.frozen?, h]
theorem blk_grown {w w1 : World} {g : Nat} {o : Obj} {row : Option Nat} (h : w.heap[g]? = some o) (hg : w.grownBy w1 row) (hne : some g ≠ row) : w1.heap[g]? = some o := (hg.block g (blk_lt h) hne).trans h
def KeepBut (w w' : World) (g : Nat) (row : Option Nat) : Prop := w.heap.size ≤ w'.heap.size ∧ ∀ i, i < w.heap.size → i ≠ g → some i ≠ row → w'.heap[i]? = w.heap[i]?
theorem KeepBut.refl (w : World) (g : Nat) (row : Option Nat) : KeepBut w w g row := ⟨Nat.le_refl _, fun _ _ _ _ => rfl⟩
theorem KeepBut.of_grown {w w1 : World} {row : Option Nat} (h : w.grownBy w1 row) (g : Nat) : KeepBut w w1 g row := ⟨h.size, fun i hi _ hr => h.block i hi hr⟩
theorem KeepBut.of_below {w w1 : World} (h : Below w.heap.size w w1) (g : Nat) (row : Option Nat) : KeepBut w w1 g row := ⟨h.size, fun i hi _ _ => h.block i hi⟩
theorem KeepBut.trans {w w1 w2 : World} {g : Nat} {row row1 : Option Nat} (h : KeepBut w w1 g row) (k : KeepBut w1 w2 g row1) (hr : row1 = row ∨ ∃ b, row1 = some b ∧ w.heap.size ≤ b) : KeepBut w w2 g row :=
  ⟨Nat.le_trans h.1 k.1, fun i hi hg hn => by
    refine (k.2 i (Nat.lt_of_lt_of_le hi h.1) hg ?_).trans (h.2 i hi hg hn)
    rcases hr with rfl | ⟨b, rfl, hb⟩
    · exact hn
    · intro e
      injection e with e
      omega⟩
theorem KeepBut.blk {w w1 : World} {g g' : Nat} {row : Option Nat} {o : Obj} (h : KeepBut w w1 g row) (hb : w.heap[g']? = some o) (hg : g' ≠ g) (hr : some g' ≠ row) : w1.heap[g']? = some o := (h.2 g' (blk_lt hb) hg hr).trans hb
theorem KeepBut.own {w w1 : World} {g : Nat} {row : Option Nat} {base : Nat} {e : TypeId} {size n : Nat} {v : Value} {xs : List Value} (h : KeepBut w w1 g row) (ho : w.ownsRow base e size v n xs) (hg : v.ownBlock ≠ some g) (hr : v.ownBlock = none ∨ v.ownBlock ≠ row) : w1.ownsRow base e size v n xs := by
  obtain ⟨h1, h2⟩ := ho
  refine ⟨h1, ?_⟩
  rcases h2 with h2 | ⟨b, cap, cur, rfl, hb, hh, r⟩
  · exact .inl h2
  · refine .inr ⟨b, cap, cur, rfl, hb, h.blk hh ?_ ?_, r⟩
    · intro e
      exact hg (by rw [← e]; rfl)
    · rcases hr with hr | hr
      · simp [Value.ownBlock] at hr
      · exact hr
section
variable {P : Program} {ops : Array Oper} {o : Oper} {a : Act} {Q : Exit → Act → World → Prop} {K : Act → World → Prop}
end
theorem own_weaken {w : World} {base base' : Nat} {e : TypeId} {size n : Nat} {v : Value} {xs : List Value} (h : w.ownsRow base e size v n xs) (hb : base' ≤ base) : w.ownsRow base' e size v n xs := by
  obtain ⟨h1, h2⟩ := h
  refine ⟨h1, ?_⟩
  rcases h2 with h2 | ⟨g, cap, cur, rfl, hg, r⟩
  · exact .inl h2
  · exact .inr ⟨g, cap, cur, rfl, Nat.le_trans hb hg, r⟩
section
variable {α : Type} {enc : α → Value} {d : α}
def encs (enc : α → Value) (xs : List α) : List Value := xs.map enc
def rdOf (d : α) (xs : List α) (i : Int) : α := xs.getD i.toNat d
def ReadsOf (enc : α → Value) (d : α) (w : World) (A : Option Addr) (n : Nat) (xs : List α) : Prop :=
  xs.length = n ∧ n ≤ 9223372036854775807 ∧ (0 < n → ∃ ad, A = some ad ∧ ∀ j, j < n → w.cell? (ad.add j) = some (enc (xs.getD j d)))
theorem ReadsOf.at_ {w : World} {A : Option Addr} {n : Nat} {xs : List α} (h : ReadsOf enc d w A n xs) (i : Int) (h0 : 0 ≤ i) (h1 : i < n) : ∃ ad, A = some ad ∧ w.cell? (ad.add i.toNat) = some (enc (rdOf d xs i)) := by
  obtain ⟨ad, e, hc⟩ := h.2.2 (by omega)
  exact ⟨ad, e, hc _ (by omega)⟩
theorem ReadsOf.below {w w1 : World} {A : Option Addr} {n : Nat} {xs : List α} (h : ReadsOf enc d w A n xs) (hb : Below w.heap.size w w1) : ReadsOf enc d w1 A n xs :=
  ⟨h.1, h.2.1, fun hn => by
    obtain ⟨ad, e, hc⟩ := h.2.2 hn
    exact ⟨ad, e, fun j hj => pw_cell_below hb (hc j hj)⟩⟩
theorem ReadsOf.take_ {w : World} {A : Option Addr} {n : Nat} {xs : List α} (h : ReadsOf enc d w A n xs) (i : Nat) (hi : i ≤ n) : ReadsOf enc d w A i (xs.take i) := by
  refine ⟨by rw [List.length_take, h.1]; omega, by have := h.2.1; omega, fun hp => ?_⟩
  obtain ⟨ad, e, hc⟩ := h.2.2 (by omega)
  refine ⟨ad, e, fun j hj => ?_⟩
  rw [hc j (by omega)]
  simp [List.getD_eq_getElem?_getD, hj]
end
section
variable {α : Type} {P : Program} {ops : Array Oper} {rest : List Oper} {o : Oper} {a : Act} {Q : Exit → Act → World → Prop}
end
theorem blk_alloc {w : World} {g : Nat} {o : Obj} (h : w.heap[g]? = some o) (o' : Obj) : (w.alloc o').heap[g]? = some o := (Below.heap_alloc w o' g (blk_lt h)).trans h
theorem blk_drew {w : World} {g : Nat} {o : Obj} (h : w.heap[g]? = some o) : w.drew.heap[g]? = some o := h
theorem blk_drewN {w : World} {g : Nat} {o : Obj} (h : w.heap[g]? = some o) (n : Nat) : (w.drewN n).heap[g]? = some o := h
theorem blk_below {w w1 : World} {g : Nat} {o : Obj} (h : w.heap[g]? = some o) (hb : Below w.heap.size w w1) : w1.heap[g]? = some o := (hb.block g (blk_lt h)).trans h
theorem blk_new (w : World) (o : Obj) : (w.alloc o).heap[w.heap.size]? = some o := heap_alloc_new w o
section
variable {P : Program}
theorem results_ct {fn : Func} {p u : Tmp} {ty : TypeId} (h : fn.results = #[.cell p ty, .tmp u]) (tmps : Array Value) (w : World) (g : Nat) (t : TypeId) (cs : Array Value) (fr : Nat × Nat) (d : TypeDesc)
    (hp : tmps.getD p undef = .pointer (some ⟨g, 0, none⟩)) (hg : w.heap[g]? = some (.cells cs t fr))
    (hu : P.underlying ty = some d) (hd : (match d with | .struct _ | .array _ _ => true | _ => false) = true) (hi : (P.info? ty).map (·.size) = some cs.size) :
    (results fn tmps).run P w = .ok (.tuple #[.agg cs, tmps.getD u undef]) w := by
  have hp' : tmps[p]?.getD undef = .pointer (some ⟨g, 0, none⟩) := by simpa using hp
  simp [results, h, hp', asAddr, run_loadVar_row w g t ty cs fr d hg hu hd hi]
end
theorem own_le {w : World} {base n m c size : Nat} {e : TypeId} {A : Option Addr} {xs : List Value} (h : w.ownsRow base e size (.slice A m c) n xs) : m ≤ c := by
  rcases h.2 with ⟨he, _⟩ | ⟨g, cap, cur, he, _, _, hnc, _⟩
  · injection he with _ h2 h3
    omega
  · injection he with _ h2 h3
    omega
def OwnRow {α : Type} (R : α → List Value → Prop) (e : TypeId) (size : Nat) (w : World) (base : Nat) (v : Value) (ps : List α) : Prop :=
  ∃ inner, w.ownsRow base e size v ps.length inner ∧ Reps R size ps inner
section
variable {α : Type} {R R' : α → List Value → Prop} {e : TypeId} {size : Nat} {w w1 : World} {base : Nat} {v : Value} {ps : List α}
theorem OwnRow.imp_ (h : OwnRow R e size w base v ps) (hR : ∀ p c, R p c → R' p c) : OwnRow R' e size w base v ps := by
  obtain ⟨inner, ho, hr⟩ := h
  exact ⟨inner, ho, hr.imp_ hR⟩
theorem OwnRow.below (h : OwnRow R e size w base v ps) (hb : Below w.heap.size w w1) : OwnRow R e size w1 base v ps := by
  obtain ⟨inner, ho, hr⟩ := h
  exact ⟨inner, pw_own_below ho hb, hr⟩
theorem OwnRow.other (h : OwnRow R e size w base v ps) {row : Option Nat} (hg : w.grownBy w1 row) (hne : v.ownBlock = none ∨ v.ownBlock ≠ row) : OwnRow R e size w1 base v ps := by
  obtain ⟨inner, ho, hr⟩ := h
  exact ⟨inner, own_other ho hg hne, hr⟩
theorem OwnRow.keep (h : OwnRow R e size w base v ps) {g : Nat} {t : TypeId} {cells : Array Value} (hb : w.heap[g]? = some (.cells cells t (0, 0))) (ht : e ≠ t) (hk : KeepBut w w1 g none) : OwnRow R e size w1 base v ps := by
  obtain ⟨inner, ho, hr⟩ := h
  exact ⟨inner, hk.own ho (Ne.symm (own_ne ho hb ht)) (by cases v.ownBlock <;> simp), hr⟩
theorem OwnRow.reads (h : OwnRow R e size w base v ps) : ∃ A c, v = .slice A ps.length c ∧ ps.length ≤ c ∧ ReadsRow R size w A ps.length ps := by
  obtain ⟨inner, ho, hr⟩ := h
  obtain ⟨A, c, rfl, hrow⟩ := own_reads_row ho hr rfl
  exact ⟨A, c, rfl, own_le ho, hrow⟩
theorem OwnRow.ne_block (h : OwnRow R e size w base v ps) {g : Nat} {t : TypeId} {cells : Array Value} (hb : w.heap[g]? = some (.cells cells t (0, 0))) (ht : e ≠ t) : some g ≠ v.ownBlock := by
  obtain ⟨inner, ho, hr⟩ := h
  exact own_ne ho hb ht
theorem OwnRow.lit (W : World) (base : Nat) {inner : List Value} (hr : Reps R size ps inner) (hb : base ≤ W.heap.size) (hm : ps.length ≤ 9223372036854775807) :
    OwnRow R e size (W.alloc (.cells inner.toArray e)) base (.slice (some ⟨W.heap.size, 0, none⟩) ps.length ps.length) ps := by
  have h := World.ownsRow_lit (base := base) (e := e) (size := size) W inner.toArray ps.length hb (by simpa [maxLen] using hm) (by simpa using hr.1)
  exact ⟨inner, by simpa using h, hr⟩
end
section
variable {P : Program} {ops : Array Oper} {rest : List Oper} {o : Oper} {a : Act} {Q : Exit → Act → World → Prop} {α : Type} {R : α → List Value → Prop}
theorem OwnRow.append {w0 W : World} (base : Nat) (hgd : o.guard = none) (s x : Operand) (t e : TypeId) (z : Value) (size bytes : Nat)
    (ho : o.op = .call { callee := .builtin .append, args := #[s, x], argTypes := #[t, t] })
    (ht : P.underlying t = some (.slice e)) (hinfo : (P.info? e).map (fun i => (i.zero, i.size, i.bytes)) = some (some z, size, bytes)) (hz : z.cells.size = size) (hs0 : 0 < size) (hb0 : 0 < bytes)
    (v : Value) (ps : List α) (p : α) (cs : List Value) (hs : a.eval s = v) (hx : a.eval x = .slice (some ⟨W.heap.size, 0, none⟩) 1 1) (hp : R p cs) (hcs : cs.length = size) (h1 : ∀ u ∈ cs, u.oneCell' = true)
    (HO : OwnRow R e size W base v ps) (HB : Below base w0 W) (hbase : base ≤ W.heap.size) (hl : (ps.length + 1) * bytes ≤ 140737488355328)
    (h : ∀ v1 w1, OwnRow R e size w1 base v1 (ps ++ [p]) → Below base w0 w1 → W.grownBy w1 v.ownBlock → (v1.ownBlock = v.ownBlock ∨ ∃ b, v1.ownBlock = some b ∧ W.heap.size ≤ b) → wpList P ops Q rest (a.put o.dst v1) w1) :
    wpList P ops Q (o :: rest) a (W.alloc (.cells cs.toArray e)) := by
  obtain ⟨inner, hown, hr⟩ := HO
  refine print_append_cells base hgd s x t e z size bytes ho ht hinfo hz hs0 hb0 v ps.length inner cs hs hx hcs h1 hown HB hbase hl ?_
  intro v1 w1 hown1 hb1 hg1 hat1
  exact h v1 w1 ⟨inner ++ cs, by rw [List.length_append, List.length_singleton]; exact hown1, hr.snoc hp hcs⟩ hb1 hg1 hat1
end
section
variable {P : Program} {ops : Array Oper} {o : Oper} {a : Act} {Q : Exit → Act → World → Prop} {K : Act → World → Prop} {α : Type} {R : α → List Value → Prop}
end
theorem ReadsRow.inner_ {α : Type} {R : α → List Value → Prop} {size : Nat} {w : World} {ad : Addr} {n : Nat} {ps : List α} (h : ReadsRow R size w (some ad) n ps) :
    ∃ inner, Reps R size ps inner ∧ ∀ j u, inner[j]? = some u → w.cell? (ad.add j) = some u := by
  have key : ∀ m, m ≤ ps.length → ∃ inner, Reps R size (ps.take m) inner ∧ ∀ j u, inner[j]? = some u → w.cell? (ad.add j) = some u := by
    intro m
    induction m with
    | zero => exact fun _ => ⟨[], Reps.none _ _, fun j u hu => by simp at hu⟩
    | succ m ih =>
      intro hm
      obtain ⟨inner, hr, hc⟩ := ih (by omega)
      obtain ⟨ad', he, hcell⟩ := h.2.2 (by have := h.1; omega)
      injection he with he
      subst he
      obtain ⟨c, hcl, hp, hcc⟩ := hcell m _ (List.getElem?_eq_getElem (show m < ps.length by omega))
      refine ⟨inner ++ c, ?_, fun j u hu => ?_⟩
      · rw [List.take_succ_eq_append_getElem (show m < ps.length by omega)]
        exact hr.snoc hp hcl
      · have hil : inner.length = m * size := by rw [hr.1, List.length_take, Nat.min_eq_left (by omega)]
        rcases Nat.lt_or_ge j inner.length with hj | hj
        · rw [List.getElem?_append_left hj] at hu
          exact hc j u hu
        · rw [List.getElem?_append_right hj] at hu
          have := hcc (j - inner.length) u hu
          rwa [hil, Nat.add_sub_cancel' (by omega)] at this
  obtain ⟨inner, hr, hc⟩ := key ps.length (Nat.le_refl _)
  rw [List.take_length] at hr
  exact ⟨inner, hr, hc⟩
section
variable {α : Type} {P : Program}
theorem ReadsOf.len_ {enc : α → Value} {d : α} {w : World} {A : Option Addr} {n : Nat} {xs : List α} (h : ReadsOf enc d w A n xs) : ReadsOf enc d w A xs.length xs := by rw [h.1]; exact h
end
section
variable {P : Program} {ops : Array Oper} {rest : List Oper} {o : Oper} {a : Act} {Q : Exit → Act → World → Prop}
end
structure Kd (α : Type) where
  sz : Nat
  E : List Nat
  K : World → α → List Value → Prop
  M : World → Nat → (Nat → Prop) → α → List Value → Prop
  K_len : ∀ {w x cs}, K w x cs → cs.length = sz
  K_one : ∀ {w x cs}, K w x cs → ∀ u ∈ cs, u.oneCell' = true
  K_below : ∀ {w w1 : World} {x cs}, Below w.heap.size w w1 → K w x cs → K w1 x cs
  K_of_M : ∀ {w base ok x cs}, M w base ok x cs → K w x cs
  M_mono : ∀ {w base ok ok' x cs}, (∀ k, ok k → ok' k) → M w base ok x cs → M w base ok' x cs
  M_bound : ∀ {w : World} {base ok x cs}, M w base ok x cs → M w base (fun k => ok k ∧ base ≤ k ∧ k < w.heap.size ∧ ∃ q, q ∈ E ∧ ∃ cells, w.heap[k]? = some (.cells cells q (0, 0))) x cs
  M_move : ∀ {w w1 : World} {base ok x cs}, (∀ k, ok k → w1.heap[k]? = w.heap[k]?) → M w base ok x cs → M w1 base ok x cs
  M_lower : ∀ {w base base' ok x cs}, base' ≤ base → M w base ok x cs → M w base' ok x cs
theorem own_move {w w1 : World} {base : Nat} {e : TypeId} {size n : Nat} {v : Value} {xs : List Value} (h : w.ownsRow base e size v n xs) (hm : ∀ k, v.ownBlock = some k → w1.heap[k]? = w.heap[k]?) : w1.ownsRow base e size v n xs := by
  obtain ⟨h1, h2⟩ := h
  refine ⟨h1, ?_⟩
  rcases h2 with h2 | ⟨g, cap, cur, rfl, hg, hh, r⟩
  · exact .inl h2
  · exact .inr ⟨g, cap, cur, rfl, hg, (hm g (by simp [Value.ownBlock])).trans hh, r⟩
theorem own_typed {w : World} {base : Nat} {e : TypeId} {size n : Nat} {v : Value} {xs : List Value} (h : w.ownsRow base e size v n xs) (k : Nat) (hk : v.ownBlock = some k) : ∃ cells, w.heap[k]? = some (.cells cells e (0, 0)) := by
  rcases h.2 with ⟨rfl, _⟩ | ⟨g, cap, cur, rfl, hg, hh, r⟩
  · simp [Value.ownBlock] at hk
  · have : g = k := by simpa [Value.ownBlock] using hk
    subst this
    exact ⟨cur, hh⟩
namespace Kd
def C {α : Type} (d : Kd α) (w : World) (A : Option Addr) (n : Nat) (xs : List α) : Prop := ReadsRow (d.K w) d.sz w A n xs
def R {α : Type} (d : Kd α) (e : Nat) (w : World) (base : Nat) (ok : Nat → Prop) (v : Value) (xs : List α) : Prop :=
  (∀ k, v.ownBlock = some k → ok k) ∧ OwnRow (d.M w base (fun k => ok k ∧ some k ≠ v.ownBlock)) e d.sz w base v xs
section
variable {α : Type} {d : Kd α} {e : Nat} {w w1 : World} {base : Nat} {ok ok' : Nat → Prop} {v : Value} {xs : List α}
theorem C_below {A : Option Addr} {n : Nat} (h : d.C w A n xs) (hb : Below w.heap.size w w1) : d.C w1 A n xs := ReadsRow.imp_ h hb (fun _ _ hp => d.K_below hb hp)
theorem R_mono (h : d.R e w base ok v xs) (hok : ∀ k, ok k → ok' k) : d.R e w base ok' v xs := ⟨fun k hk => hok k (h.1 k hk), h.2.imp_ (fun _ _ hp => d.M_mono (fun k hk => ⟨hok k hk.1, hk.2⟩) hp)⟩
theorem R_bound (h : d.R e w base ok v xs) : d.R e w base (fun k => ok k ∧ base ≤ k ∧ k < w.heap.size ∧ ∃ q, q ∈ e :: d.E ∧ ∃ cells, w.heap[k]? = some (.cells cells q (0, 0))) v xs := by
  obtain ⟨h0, inner, ho, hr⟩ := h
  refine ⟨fun k hk => ?_, inner, ho, hr.imp_ (fun _ _ hp => d.M_mono (fun k hk => ?_) (d.M_bound hp))⟩
  · obtain ⟨cells, hc⟩ := own_typed ho k hk
    exact ⟨h0 k hk, own_base ho k hk, own_lt ho k hk, e, List.mem_cons_self, cells, hc⟩
  · obtain ⟨⟨h1, h2⟩, h3, h4, q, hq, hc⟩ := hk
    exact ⟨⟨h1, h3, h4, q, List.mem_cons_of_mem _ hq, hc⟩, h2⟩
theorem R_move (h : d.R e w base ok v xs) (hm : ∀ k, ok k → w1.heap[k]? = w.heap[k]?) : d.R e w1 base ok v xs := by
  obtain ⟨h0, inner, ho, hr⟩ := h
  exact ⟨h0, inner, own_move ho (fun k hk => hm k (h0 k hk)), hr.imp_ (fun _ _ hp => d.M_move (fun k hk => hm k hk.1) hp)⟩
theorem R_lower {base' : Nat} (h : d.R e w base ok v xs) (hb : base' ≤ base) : d.R e w base' ok v xs := by
  obtain ⟨h0, inner, ho, hr⟩ := h
  exact ⟨h0, inner, own_weaken ho hb, hr.imp_ (fun _ _ hp => d.M_lower hb hp)⟩
theorem R_step (h : d.R e w base ok v xs) (hm : ∀ k, ok k → k < w.heap.size → w1.heap[k]? = w.heap[k]?) : d.R e w1 base ok v xs :=
  R_mono (R_move (R_bound h) (fun k hk => hm k hk.1 hk.2.2.1)) (fun _ hk => hk.1)
theorem M_step {x : α} {cs : List Value} (h : d.M w base ok x cs) (hm : ∀ k, ok k → k < w.heap.size → w1.heap[k]? = w.heap[k]?) : d.M w1 base ok x cs :=
  d.M_mono (fun _ hk => hk.1) (d.M_move (fun k hk => hm k hk.1 hk.2.2.1) (d.M_bound h))
theorem R_below (h : d.R e w base ok v xs) (hb : Below w.heap.size w w1) : d.R e w1 base ok v xs := R_step h (fun k _ hk => hb.block k hk)
theorem M_below {x : α} {cs : List Value} (h : d.M w base ok x cs) (hb : Below w.heap.size w w1) : d.M w1 base ok x cs := M_step h (fun k _ hk => hb.block k hk)
theorem R_far (h : d.R e w base ok v xs) {p : Addr} (hok : ∀ k, ok k → k ≠ p.block) (u : Value) : d.R e (w.setCell p u) base ok v xs := R_step h (fun k ho _ => Below.heap_setCell w p u k (hok k ho))
theorem R_types (h : d.R e w base ok v xs) {g t : Nat} {cells : Array Value} (hb : w.heap[g]? = some (.cells cells t (0, 0))) (ht : ∀ q, q ∈ e :: d.E → q ≠ t) : d.R e w base (fun k => ok k ∧ k ≠ g) v xs :=
  R_mono (R_bound h) (fun k hk => ⟨hk.1, by
    obtain ⟨_, _, _, q, hq, cells', hc⟩ := hk
    rintro rfl
    rw [hc] at hb
    injection hb with hb
    injection hb with _ hb
    exact ht q hq hb⟩)
theorem R_reads (h : d.R e w base ok v xs) : ∃ A c, v = .slice A xs.length c ∧ xs.length ≤ c ∧ d.C w A xs.length xs := by
  obtain ⟨A, c, he, hl, hr⟩ := OwnRow.reads h.2
  exact ⟨A, c, he, hl, hr.imp_ (Below.refl _ _) (fun _ _ hp => d.K_of_M hp)⟩
theorem R_slice (h : d.R e w base ok v xs) : ∃ A c, v = .slice A xs.length c := by
  obtain ⟨A, c, he, _⟩ := R_reads h
  exact ⟨A, c, he⟩
theorem R_own (h : d.R e w base ok v xs) : ∃ inner, w.ownsRow base e d.sz v xs.length inner := by
  obtain ⟨_, inner, ho, _⟩ := h
  exact ⟨inner, ho⟩
theorem R_ne (h : d.R e w base ok v xs) {g t : Nat} {cells : Array Value} (hb : w.heap[g]? = some (.cells cells t (0, 0))) (ht : e ≠ t) : some g ≠ v.ownBlock := OwnRow.ne_block h.2 hb ht
end
def scalar {α : Type} (enc : α → Value) (h1 : ∀ x, (enc x).oneCell' = true) : Kd α where
  sz := 1
  E := []
  K := fun _ x cs => cs = [enc x]
  M := fun _ _ _ x cs => cs = [enc x]
  K_len := fun h => by rw [h]; rfl
  K_one := fun h u hu => by
    rw [h] at hu
    rw [List.mem_singleton.1 hu]
    exact h1 _
  K_below := fun _ h => h
  K_of_M := fun h => h
  M_mono := fun _ h => h
  M_bound := fun h => h
  M_move := fun _ h => h
  M_lower := fun _ h => h
def int (k : IntKind) : Kd Int := scalar (Value.int k) (fun _ => rfl)
def bool : Kd Bool := scalar Value.bool (fun _ => rfl)
def string : Kd ByteArray := scalar Value.string (fun _ => rfl)
def slice {α : Type} (e : Nat) (d : Kd α) : Kd (List α) where
  sz := 1
  E := e :: d.E
  K := fun w xs cs => ∃ A c, cs = [.slice A xs.length c] ∧ xs.length ≤ c ∧ d.C w A xs.length xs
  M := fun w base ok xs cs => ∃ v, cs = [v] ∧ d.R e w base ok v xs
  K_len := by
    rintro w x cs ⟨A, c, rfl, _⟩
    rfl
  K_one := by
    rintro w x cs ⟨A, c, rfl, _⟩ u hu
    rw [List.mem_singleton.1 hu]
    rfl
  K_below := by
    rintro w w1 x cs hb ⟨A, c, rfl, hl, hr⟩
    exact ⟨A, c, rfl, hl, C_below hr hb⟩
  K_of_M := by
    rintro w base ok x cs ⟨v, rfl, h⟩
    obtain ⟨A, c, rfl, hl, hr⟩ := R_reads h
    exact ⟨A, c, rfl, hl, hr⟩
  M_mono := by
    rintro w base ok ok' x cs hok ⟨v, rfl, h⟩
    exact ⟨v, rfl, R_mono h hok⟩
  M_bound := by
    rintro w base ok x cs ⟨v, rfl, h⟩
    exact ⟨v, rfl, R_bound h⟩
  M_move := by
    rintro w w1 base ok x cs hm ⟨v, rfl, h⟩
    exact ⟨v, rfl, R_move h hm⟩
  M_lower := by
    rintro w base base' ok x cs hb ⟨v, rfl, h⟩
    exact ⟨v, rfl, R_lower h hb⟩
def pair {α β : Type} (a : Kd α) (b : Kd β) : Kd (α × β) where
  sz := a.sz + b.sz
  E := a.E ++ b.E
  K := fun w x cs => ∃ c0 c1, cs = c0 ++ c1 ∧ a.K w x.1 c0 ∧ b.K w x.2 c1
  M := fun w base ok x cs => ∃ c0 c1, cs = c0 ++ c1 ∧ a.M w base ok x.1 c0 ∧ b.M w base ok x.2 c1
  K_len := by
    rintro w x cs ⟨c0, c1, rfl, h0, h1⟩
    rw [List.length_append, a.K_len h0, b.K_len h1]
  K_one := by
    rintro w x cs ⟨c0, c1, rfl, h0, h1⟩ u hu
    rcases List.mem_append.1 hu with hu | hu
    · exact a.K_one h0 u hu
    · exact b.K_one h1 u hu
  K_below := by
    rintro w w1 x cs hb ⟨c0, c1, rfl, h0, h1⟩
    exact ⟨c0, c1, rfl, a.K_below hb h0, b.K_below hb h1⟩
  K_of_M := by
    rintro w base ok x cs ⟨c0, c1, rfl, h0, h1⟩
    exact ⟨c0, c1, rfl, a.K_of_M h0, b.K_of_M h1⟩
  M_mono := by
    rintro w base ok ok' x cs hok ⟨c0, c1, rfl, h0, h1⟩
    exact ⟨c0, c1, rfl, a.M_mono hok h0, b.M_mono hok h1⟩
  M_bound := by
    rintro w base ok x cs ⟨c0, c1, rfl, h0, h1⟩
    refine ⟨c0, c1, rfl, a.M_mono ?_ (a.M_bound h0), b.M_mono ?_ (b.M_bound h1)⟩
    · rintro k ⟨h2, h3, h4, q, hq, hc⟩
      exact ⟨h2, h3, h4, q, List.mem_append_left _ hq, hc⟩
    · rintro k ⟨h2, h3, h4, q, hq, hc⟩
      exact ⟨h2, h3, h4, q, List.mem_append_right _ hq, hc⟩
  M_move := by
    rintro w w1 base ok x cs hm ⟨c0, c1, rfl, h0, h1⟩
    exact ⟨c0, c1, rfl, a.M_move hm h0, b.M_move hm h1⟩
  M_lower := by
    rintro w base base' ok x cs hb ⟨c0, c1, rfl, h0, h1⟩
    exact ⟨c0, c1, rfl, a.M_lower hb h0, b.M_lower hb h1⟩
def iso {α β : Type} (d : Kd α) (f : β → α) : Kd β where
  sz := d.sz
  E := d.E
  K := fun w x cs => d.K w (f x) cs
  M := fun w base ok x cs => d.M w base ok (f x) cs
  K_len := d.K_len
  K_one := d.K_one
  K_below := d.K_below
  K_of_M := d.K_of_M
  M_mono := d.M_mono
  M_bound := d.M_bound
  M_move := d.M_move
  M_lower := d.M_lower
def bot {α : Type} (sz : Nat) (E : List Nat) : Kd α where
  sz := sz
  E := E
  K := fun _ _ _ => False
  M := fun _ _ _ _ _ => False
  K_len := fun h => h.elim
  K_one := fun h => h.elim
  K_below := fun _ h => h
  K_of_M := fun h => h
  M_mono := fun _ h => h
  M_bound := fun h => h
  M_move := fun _ h => h
  M_lower := fun _ h => h
def upto {α : Type} (F : Kd α → Kd α) (sz : Nat) (E : List Nat) : Nat → Kd α
  | 0 => bot sz E
  | n + 1 => F (upto F sz E n)
theorem C_get {α : Type} {d : Kd α} {w : World} {A : Option Addr} {n : Nat} {xs : List α} (h : d.C w A n xs) (z : α) (i : Int) (h0 : 0 ≤ i) (h1 : i < n) :
    ∃ ad c, A = some ad ∧ c.length = d.sz ∧ d.K w (xs.getD i.toNat z) c ∧ ∀ j u, c[j]? = some u → w.cell? (ad.add (i.toNat * d.sz + j)) = some u := ReadsRow.get_ h z i h0 h1
section
variable {P : Program} {ops : Array Oper} {rest : List Oper} {o : Oper} {a : Act} {Q : Exit → Act → World → Prop} {α : Type}
end
section
variable {P : Program} {ops : Array Oper} {o : Oper} {a : Act} {Q : Exit → Act → World → Prop} {Kc : Act → World → Prop} {α : Type}
end
theorem C_of_reads {α : Type} {enc : α → Value} {d : α} {h1 : ∀ x, (enc x).oneCell' = true} {w : World} {A : Option Addr} {n : Nat} {xs : List α} (h : ReadsOf enc d w A n xs) : (scalar enc h1).C w A n xs := by
  refine ⟨h.1, h.2.1, fun hn => ?_⟩
  obtain ⟨ad, e, hc⟩ := h.2.2 hn
  refine ⟨ad, e, fun j p hj => ⟨[enc p], rfl, rfl, fun i u hu => ?_⟩⟩
  obtain ⟨hl, hp⟩ := List.getElem?_eq_some_iff.1 hj
  have h2 := hc j (by have := h.1; omega)
  rw [List.getD_eq_getElem?_getD, hj] at h2
  cases i with
  | zero =>
    have : enc p = u := by simpa using hu
    subst this
    simpa [scalar] using h2
  | succ i => simp at hu
theorem reads_of_C {α : Type} {enc : α → Value} {d : α} {h1 : ∀ x, (enc x).oneCell' = true} {w : World} {A : Option Addr} {n : Nat} {xs : List α} (h : (scalar enc h1).C w A n xs) : ReadsOf enc d w A n xs := by
  refine ⟨h.1, h.2.1, fun hn => ?_⟩
  obtain ⟨ad, e, hc⟩ := h.2.2 hn
  refine ⟨ad, e, fun j hj => ?_⟩
  have hl : j < xs.length := by have := h.1; omega
  obtain ⟨c, _, hK, hcell⟩ := hc j _ (List.getElem?_eq_getElem hl)
  have hK' : c = [enc xs[j]] := hK
  subst hK'
  have := hcell 0 _ rfl
  simpa [scalar, List.getD_eq_getElem?_getD, List.getElem?_eq_getElem hl] using this
end Kd
namespace Kd
section
variable {α : Type} {F : Kd α → Kd α} {sz : Nat} {E : List Nat} {hs : ∀ n, (upto F sz E n).sz = sz} {hE : ∀ n q, q ∈ (upto F sz E n).E → q ∈ E}
end
end Kd
namespace Kd
theorem R_after {α : Type} {d : Kd α} {e base : Nat} {ok : Nat → Prop} {W w1 : World} {u v v1 : Value} {xs : List α} (h : d.R e W base (fun k => ok k ∧ some k ≠ v.ownBlock) u xs) (hg : W.grownBy w1 v.ownBlock) (hat : v1.ownBlock = v.ownBlock ∨ ∃ b, v1.ownBlock = some b ∧ W.heap.size ≤ b) : d.R e w1 base (fun k => ok k ∧ some k ≠ v1.ownBlock) u xs := by
  refine R_mono (R_move (R_bound h) (fun k hk => hg.block k hk.2.2.1 hk.1.2)) (fun k hk => ⟨hk.1.1, ?_⟩)
  rcases hat with hat | ⟨b, hb, hle⟩
  · rw [hat]; exact hk.1.2
  · rw [hb]
    intro he
    injection he with he
    have := hk.2.2.1
    omega
end Kd
namespace Kd
section
variable {α β : Type} {d : Kd α} {d' : Kd β} {e e' : Nat} {w w1 W : World} {base b b' : Nat} {ok ok' okv oku : Nat → Prop} {v u : Value} {xs : List α} {ys : List β}
theorem R_alloc (h : d.R e w base ok v xs) (o : Obj) : d.R e (w.alloc o) base ok v xs := R_below h (below_alloc (Below.refl _ _) o)
theorem R_drew (h : d.R e w base ok v xs) : d.R e w.drew base ok v xs := R_below h (below_drew (Below.refl _ _))
theorem R_drewN (h : d.R e w base ok v xs) (m : Nat) : d.R e (w.drewN m) base ok v xs := R_below h (pw_below_drewN (Below.refl _ _) m)
theorem C_alloc {A : Option Addr} {n : Nat} (h : d.C w A n xs) (o : Obj) : d.C (w.alloc o) A n xs := C_below h (below_alloc (Below.refl _ _) o)
theorem C_drew {A : Option Addr} {n : Nat} (h : d.C w A n xs) : d.C w.drew A n xs := C_below h (below_drew (Below.refl _ _))
theorem C_drewN {A : Option Addr} {n : Nat} (h : d.C w A n xs) (m : Nat) : d.C (w.drewN m) A n xs := C_below h (pw_below_drewN (Below.refl _ _) m)
theorem R_reads' {A : Option Addr} {n c : Nat} (h : d.R e w base ok (.slice A n c) xs) : n = xs.length ∧ n ≤ c ∧ d.C w A xs.length xs := by
  obtain ⟨A', c', he, hl, hr⟩ := R_reads h
  injection he with h1 h2 h3
  subst h1
  exact ⟨h2, by omega, hr⟩
theorem R_lt (h : d.R e w base ok v xs) : ∀ k, v.ownBlock = some k → k < w.heap.size := by
  obtain ⟨inner, ho⟩ := R_own h
  exact own_lt ho
theorem R_base (h : d.R e w base ok v xs) : ∀ k, v.ownBlock = some k → base ≤ k := by
  obtain ⟨inner, ho⟩ := R_own h
  exact own_base ho
end
section
variable {w W : World} {A : Option Addr} {n : Nat}
theorem at_int {k : IntKind} {xs : List Int} (h : (Kd.int k).C w A n xs) (i : Int) (h0 : 0 ≤ i) (h1 : i < n) : ∃ ad, A = some ad ∧ w.cell? (ad.add i.toNat) = some (.int k (rd xs i)) :=
  ReadsOf.at_ (reads_of_C (enc := Value.int k) (d := (0 : Int)) (h1 := fun _ => rfl) h) i h0 h1
variable {α : Type} {enc : α → Value} {h1 : ∀ x, (enc x).oneCell' = true} {e base g cap : Nat} {ok : Nat → Prop} {xs : List α}
end
section
variable {P : Program} {ops : Array Oper} {rest : List Oper} {o : Oper} {a : Act} {Q : Exit → Act → World → Prop}
theorem event_run {W w1 : World} {v : Value} (hgd : o.guard = none) (hrun : (execOp a.eval o).run P W = .ok (.value v) w1) (h : wpList P ops Q rest (a.put o.dst v) w1) : wpList P ops Q (o :: rest) a W := by
  refine wpList_plain hgd fun K hK => ?_
  unfold Oper.wp
  rw [hrun]
  exact hK _ _ h
variable {α : Type}
theorem R_lit (d : Kd α) {w0 W : World} (base e : Nat) (hgd : o.guard = none) {N : Tmp} (_hd : o.dst = some N) {xs : List α} {inner : List Value} {ok okp : Nat → Prop}
    (hrun : (execOp a.eval o).run P W = .ok (.value (.slice (some ⟨W.heap.size, 0, none⟩) xs.length xs.length)) (W.alloc (.cells inner.toArray e)))
    (hrep : Reps (d.M W base okp) d.sz xs inner) (hok : ∀ k, okp k → ok k) (hfresh : ok W.heap.size) (HB : Below base w0 W) (hbase : base ≤ W.heap.size) (hm : xs.length ≤ 9223372036854775807)
    (h : ∀ v1 w1, d.R e w1 base ok v1 xs → Below base w0 w1 → W.grownBy w1 none → (∃ b, v1.ownBlock = some b ∧ W.heap.size ≤ b) → wpList P ops Q rest (a.put o.dst v1) w1) : wpList P ops Q (o :: rest) a W := by
  refine event_run hgd hrun (h _ _ ⟨fun k hk => ?_, inner, ?_, ?_⟩ (HB.alloc hbase _) (World.grownBy_alloc W _ none) ⟨W.heap.size, by simp [Value.ownBlock], Nat.le_refl _⟩)
  · have : W.heap.size = k := by simpa [Value.ownBlock] using hk
    subst this
    exact hfresh
  · have h2 := World.ownsRow_lit (base := base) (e := e) (size := d.sz) W inner.toArray xs.length hbase (by simpa [maxLen] using hm) (by simpa using hrep.1)
    simpa using h2
  · refine hrep.imp_ (fun p c hp => d.M_mono (fun k hk => ⟨hok k hk.1, fun he => ?_⟩) (M_below (d.M_bound hp) (below_alloc (Below.refl _ _) _)))
    have h3 : k = W.heap.size := by simpa [Value.ownBlock] using he
    have := hk.2.2.1
    omega
end
end Kd
section
variable {P : Program}
end
def QRow (w : World) (base : Nat) (e : TypeId) (size : Nat) (v : Value) (n : Nat) (xs : List Value) : Prop :=
  xs.length = n * size ∧
  ((n = 0 ∧ ∃ A, v = .slice A 0 0 ∧ ∀ a, A = some a → base ≤ a.block ∧ ∃ cur, w.heap[a.block]? = some (.cells cur e (0, 0))) ∨
   ∃ g off cap cur, v = .slice (some ⟨g, off * size, none⟩) n cap ∧ base ≤ g ∧ w.heap[g]? = some (.cells cur e (0, 0)) ∧ n ≤ cap ∧ off + cap ≤ maxLen ∧ cur.size = (off + cap) * size ∧ (cur.toList.drop (off * size)).take (n * size) = xs)
section
variable {w w1 : World} {base n size : Nat} {e : TypeId} {v : Value} {xs : List Value}
theorem setCells_row {g : Nat} {e : TypeId} : ∀ (vs : List Value) (o : Nat) (w : World) (cur : Array Value), w.heap[g]? = some (.cells cur e (0, 0)) → o + vs.length ≤ cur.size →
    ∃ cur', (w.setCells g o vs).heap[g]? = some (.cells cur' e (0, 0)) ∧ cur'.size = cur.size ∧ cur'.toList = cur.toList.take o ++ vs ++ cur.toList.drop (o + vs.length)
  | [], o, w, cur, h, _ => ⟨cur, h, rfl, by simp⟩
  | v :: r, o, w, cur, h, hl => by
    have h2 := blk_set h o v
    simp only [List.length_cons] at hl
    obtain ⟨cur', h3, h4, h5⟩ := setCells_row r (o + 1) (w.setCell ⟨g, o, none⟩ v) _ h2 (by simp; omega)
    refine ⟨cur', h3, by rw [h4]; simp, ?_⟩
    rw [h5, Array.toList_setIfInBounds]
    have ho : o < cur.toList.length := by rw [Array.length_toList]; omega
    rw [List.take_set, List.drop_set_of_lt (by omega)]
    simp only [List.length_cons]
    rw [show o + 1 + r.length = o + (r.length + 1) by omega]
    congr 1
    rw [List.take_succ_eq_append_getElem ho, List.set_append_right _ _ (by rw [List.length_take]; omega)]
    have ho' : o < cur.size := by omega
    simp [Nat.min_eq_left (Nat.le_of_lt ho')]
end
section
variable {P : Program}
end
namespace Kd
def Q {α : Type} (d : Kd α) (e : Nat) (w : World) (base : Nat) (ok : Nat → Prop) (v : Value) (xs : List α) : Prop :=
  (∀ k, v.ownBlock = some k → ok k) ∧ ∃ inner, QRow w base e d.sz v xs.length inner ∧ Reps (d.M w base (fun k => ok k ∧ some k ≠ v.ownBlock)) d.sz xs inner
section
variable {α : Type} {d : Kd α} {e : Nat} {w w1 W : World} {base : Nat} {ok ok' : Nat → Prop} {v : Value} {xs : List α}
end
section
variable {P : Program} {ops : Array Oper} {rest : List Oper} {o : Oper} {a : Act} {Q' : Exit → Act → World → Prop} {Kc : Act → World → Prop} {α : Type}
end
end Kd
namespace Kd
section
variable {α : Type} {d : Kd α} {e e' : Nat} {w w1 W : World} {base : Nat} {ok : Nat → Prop} {u v : Value} {xs : List α}
theorem R_elder' (hu : d.R e W base ok u xs) (hbase : ∀ k, v.ownBlock = some k → W.heap.size ≤ k) (hb : Below W.heap.size W w1) : d.R e w1 base (fun k => ok k ∧ some k ≠ v.ownBlock) u xs :=
  R_mono (R_move (R_bound hu) (fun k hk => hb.block k hk.2.2.1)) (fun k hk => ⟨hk.1, fun he => by have := hbase k he.symm; have := hk.2.2.1; omega⟩)
theorem R_new' (h : d.R e w1 W.heap.size ok v xs) (hlt : ∀ k, u.ownBlock = some k → k < W.heap.size) : d.R e w1 W.heap.size (fun k => ok k ∧ some k ≠ u.ownBlock) v xs :=
  R_mono (R_bound h) (fun k hk => ⟨hk.1, fun he => by have := hlt k he.symm; have := hk.2.1; omega⟩)
theorem fresh' (hlt : ∀ k, u.ownBlock = some k → k < W.heap.size) : ∀ k, W.heap.size ≤ k → some k ≠ u.ownBlock := fun k hk he => by have := hlt k he.symm; omega
end
end Kd
namespace Kd
section
variable {α : Type} {d : Kd α} {e base g n cap : Nat} {ok okp : Nat → Prop} {W : World} {xs : List α}
end
end Kd
namespace Kd
section
variable {α : Type} {F : Kd α → Kd α} {sz : Nat} {E : List Nat} {hs : ∀ n, (upto F sz E n).sz = sz} {hE : ∀ n q, q ∈ (upto F sz E n).E → q ∈ E}
end
end Kd
namespace Kd
theorem reps_append {α : Type} {R : α → List Value → Prop} {size : Nat} {ps qs : List α} {cs ds : List Value} (h : Reps R size ps cs) (h' : Reps R size qs ds) : Reps R size (ps ++ qs) (cs ++ ds) := by
  refine ⟨by rw [List.length_append, List.length_append, h.1, h'.1, Nat.add_mul], fun j p hj => ?_⟩
  rcases Nat.lt_or_ge j ps.length with hlt | hge
  · rw [List.getElem?_append_left hlt] at hj
    have hle : j * size + size ≤ cs.length := by rw [h.1, ← Nat.succ_mul]; exact Nat.mul_le_mul_right _ hlt
    rw [List.drop_append_of_le_length (by omega), List.take_append_of_le_length (by rw [List.length_drop]; omega)]
    exact h.2 j p hj
  · rw [List.getElem?_append_right hge] at hj
    have h2 := h'.2 (j - ps.length) p hj
    have hle : ps.length * size ≤ j * size := Nat.mul_le_mul_right _ hge
    rw [List.drop_append, List.drop_eq_nil_of_le (by rw [h.1]; exact hle), List.nil_append, h.1, ← Nat.sub_mul]
    exact h2
section
variable {P : Program} {ops : Array Oper} {rest : List Oper} {o : Oper} {a : Act} {Q : Exit → Act → World → Prop} {α : Type}
end
end Kd
namespace Kd
section
variable {P : Program} {ops : Array Oper} {rest : List Oper} {o : Oper} {a : Act} {Q : Exit → Act → World → Prop} {α : Type}
end
end Kd
theorem add_add (a : Addr) (i j : Nat) : (a.add i).add j = a.add (i + j) := by
  unfold Addr.add
  by_cases h1 : i = 0 <;> by_cases h2 : j = 0 <;> simp [h1, h2, Nat.add_assoc]
namespace Kd
section
variable {α : Type} {k : Kd α} {w : World} {A : Option Addr} {xs : List α} {m c : Nat}
end
end Kd
section
variable {P : Program}
end
theorem below_size {w W : World} (h : Below w.heap.size w W) : w.heap.size ≤ W.heap.size := h.size
theorem below_step {w W w2 : World} (h : Below w.heap.size w W) (k : Below W.heap.size W w2) : Below w.heap.size w w2 := below_then h h.size k
theorem own_reads' {W : World} {base n c : Nat} {e : TypeId} {k : IntKind} {A : Option Addr} {xs : List Int} (h : W.ownsRow base e 1 (.slice A n c) n (nums k xs)) : ReadsInt W k A n xs := by
  obtain ⟨A', c', he, hr⟩ := own_reads h
  injection he with hA
  rw [hA]; exact hr
theorem ReadsInt.nil (W : World) (k : IntKind) : ReadsInt W k none ([] : List Int).length [] := ⟨rfl, by simp, fun h => absurd h (Nat.lt_irrefl 0)⟩
theorem ReadsInt.drewN {W : World} {k : IntKind} {A : Option Addr} {n : Nat} {xs : List Int} (h : ReadsInt W k A n xs) (m : Nat) : ReadsInt (W.drewN m) k A n xs := h
theorem ReadsInt.allocS {W : World} {k : IntKind} {A : Option Addr} {n : Nat} {xs : List Int} (h : ReadsInt W k A n xs) (o : Obj) : ReadsInt (W.alloc o) k A n xs := h.below (below_alloc (Below.refl _ _) o)
theorem ReadsInt.ofRow {k : IntKind} {w : World} {a : Option Addr} {len cap : Nat} {zs : List Int} (h : (a = none ∧ len = 0 ∧ cap = 0 ∧ zs = []) ∨ ∃ x, a = some x ∧ len ≤ cap ∧ cap ≤ maxLen ∧ zs.length = cap ∧ (∀ i, i < zs.length → w.cell? (x.add i) = some (.int k (zs.getD i 0))) ∧ ∀ n ∈ zs, (Lit.int k n).wf = true) :
    ∃ l : List Int, len = l.length ∧ ReadsInt w k a l.length l ∧ l.length ≤ maxLen ∧ ∀ x ∈ l, (Lit.int k x).wf = true := by
  rcases h with ⟨rfl, rfl, rfl, rfl⟩ | ⟨x, rfl, hl, hm, hz, hc, hw⟩
  · exact ⟨[], rfl, ReadsInt.nil _ _, Nat.zero_le _, fun x hx => by simp at hx⟩
  · have e : (zs.take len).length = len := by simp; omega
    have hm' : len ≤ maxLen := Nat.le_trans hl hm
    refine ⟨zs.take len, e.symm, ⟨rfl, by rw [e]; simpa [maxLen] using hm', fun _ => ⟨x, rfl, fun j hj => ?_⟩⟩, by rw [e]; exact hm', fun y hy => hw y (List.mem_of_mem_take hy)⟩
    rw [e] at hj
    rw [hc j (by omega)]
    simp [List.getD, List.getElem?_take, hj]
theorem below_set {w W : World} {g j : Nat} {v : Value} (h : Below w.heap.size w W) (hg : w.heap.size ≤ g) : Below w.heap.size w (W.setCell ⟨g, j, none⟩ v) := h.setCell hg _
theorem keep_cell {w W : World} {g : Nat} (h : KeepBut w W g none) {a : Addr} {v : Value} (hc : w.cell? a = some v) (hne : a.block ≠ g) : W.cell? a = some v := by
  have := h.2 a.block (World.block_lt_of_cell? w a hc) hne (by simp)
  simpa [World.cell?, this] using hc
theorem add_block (a : Addr) (i : Nat) : (a.add i).block = a.block := by unfold Addr.add; split <;> rfl
theorem ReadsOf.nil {α : Type} (enc : α → Value) (d : α) (W : World) : ReadsOf enc d W none ([] : List α).length [] := ⟨rfl, by simp, fun h => absurd h (Nat.lt_irrefl 0)⟩
theorem ReadsOf.drewN {α : Type} {enc : α → Value} {d : α} {W : World} {A : Option Addr} {n : Nat} {xs : List α} (h : ReadsOf enc d W A n xs) (m : Nat) : ReadsOf enc d (W.drewN m) A n xs := h
theorem ReadsOf.allocS {α : Type} {enc : α → Value} {d : α} {W : World} {A : Option Addr} {n : Nat} {xs : List α} (h : ReadsOf enc d W A n xs) (o : Obj) : ReadsOf enc d (W.alloc o) A n xs := h.below (below_alloc (Below.refl _ _) o)
theorem ReadsInt.keep {w W : World} {k : IntKind} {A : Option Addr} {n g : Nat} {xs : List Int} (h : ReadsInt w k A n xs) (hk : KeepBut w W g none) (hf : ∀ ad, A = some ad → 0 < n → ad.block ≠ g) : ReadsInt W k A n xs :=
  ⟨h.1, h.2.1, fun hn => by
    obtain ⟨ad, e, hc⟩ := h.2.2 hn
    exact ⟨ad, e, fun j hj => keep_cell hk (hc j hj) (by rw [add_block]; exact hf ad e hn)⟩⟩
theorem ReadsOf.keep {α : Type} {enc : α → Value} {d : α} {w W : World} {A : Option Addr} {n g : Nat} {xs : List α} (h : ReadsOf enc d w A n xs) (hk : KeepBut w W g none) (hf : ∀ ad, A = some ad → 0 < n → ad.block ≠ g) : ReadsOf enc d W A n xs :=
  ⟨h.1, h.2.1, fun hn => by
    obtain ⟨ad, e, hc⟩ := h.2.2 hn
    exact ⟨ad, e, fun j hj => keep_cell hk (hc j hj) (by rw [add_block]; exact hf ad e hn)⟩⟩
theorem blk_put {w : World} {g : Nat} {t : TypeId} {cs cs' : Array Value} (h : w.heap[g]? = some (.cells cs t (0, 0))) (i : Nat) (u : Value) (e : cs.setIfInBounds i u = cs') : (w.setCell ⟨g, i, none⟩ u).heap[g]? = some (.cells cs' t (0, 0)) := e ▸ blk_set h i u
theorem ReadsInt.ofRowC {k : IntKind} {w : World} {a : Option Addr} {len cap : Nat} {zs : List Int} (h : (a = none ∧ len = 0 ∧ cap = 0 ∧ zs = []) ∨ ∃ x, a = some x ∧ len ≤ cap ∧ cap ≤ maxLen ∧ zs.length = cap ∧ (∀ i, i < zs.length → w.cell? (x.add i) = some (.int k (zs.getD i 0))) ∧ ∀ n ∈ zs, (Lit.int k n).wf = true) :
    ∃ l : List Int, len = l.length ∧ ReadsInt w k a l.length l ∧ l.length ≤ maxLen ∧ (∀ x ∈ l, (Lit.int k x).wf = true) ∧ l.length ≤ cap := by
  have hl : len ≤ cap := by
    rcases h with ⟨_, rfl, rfl, _⟩ | ⟨_, _, h, _⟩
    · exact Nat.le_refl _
    · exact h
  obtain ⟨l, e, h1, h2, h3⟩ := ReadsInt.ofRow h
  exact ⟨l, e, h1, h2, h3, e ▸ hl⟩
theorem below_drew1 {base : Nat} {w W : World} (h : Below base w W) : Below base w W.drew := h.drew
namespace Kd
section
variable {α β : Type} {d : Kd α} {d' : Kd β} {e e' base base' n : Nat} {ok ok' : Nat → Prop} {w W w1 W1 : World} {v u : Value} {xs : List α} {ys : List β} {A : Option Addr} {c : Nat}
end
section
variable {α : Type} {enc : α → Value} {h1 : ∀ x, (enc x).oneCell' = true} {w W : World} {A : Option Addr} {n g : Nat} {xs : List α}
end
end Kd
namespace Kd
section
variable {α : Type} {d : Kd α} {e base g : Nat} {ok : Nat → Prop} {w w1 : World} {v : Value} {xs : List α} {o : Obj}
end
end Kd
section
variable {P : Program} {ops : Array Oper} {rest : List Oper} {o : Oper} {a : Act} {Q : Exit → Act → World → Prop}
theorem box_event {W : World} (hgd : o.guard = none) {N : Tmp} (_hd : o.dst = some N) {cs : Array Value} {t : TypeId}
    (hrun : (execOp a.eval o).run P W = .ok (.value (.pointer (some ⟨W.heap.size, 0, none⟩))) (W.alloc (.cells cs t (0, 0))))
    (h : ∀ g, g = W.heap.size → ∀ w1, w1.heap[g]? = some (.cells cs t (0, 0)) → Below W.heap.size W w1 → wpList P ops Q rest (a.put o.dst (.pointer (some ⟨g, 0, none⟩))) w1) : wpList P ops Q (o :: rest) a W :=
  Kd.event_run hgd hrun (h _ rfl _ (blk_new W _) (below_alloc (Below.refl _ _) _))
end
namespace Kd
section
variable {α : Type} {enc : α → Value} {h1 : ∀ x, (enc x).oneCell' = true} {e base g n cap : Nat} {ok : Nat → Prop} {W : World} {xs : List α}
end
end Kd
section
variable {P : Program} {ops : Array Oper} {rest : List Oper} {o : Oper} {a : Act} {Q : Exit → Act → World → Prop}
end
namespace Kd
section
variable {α : Type} {enc : α → Value} {h1 : ∀ x, (enc x).oneCell' = true} {e base g n cap : Nat} {ok : Nat → Prop} {W : World} {xs : List α}
end
end Kd
section
variable {P : Program} {ops : Array Oper} {rest : List Oper} {o : Oper} {a : Act} {Q : Exit → Act → World → Prop} {W : World}
theorem gate_dst {N : Tmp} (_hN : o.dst = some N) (h : wpList P ops Q (o :: rest) a W) : wpList P ops Q (o :: rest) a W := h
end
section
variable {P : Program} {ops : Array Oper} {o : Oper} {a : Act} {Q : Exit → Act → World → Prop} {Kc : Act → World → Prop}
theorem event_step {W w1 : World} {v : Value} (hw : Region.wanted o (yielded ops a.tmps) = true) (hrun : (execOp a.eval o).run P W = .ok (.value v) w1) (h : Kc (a.put o.dst v) w1) : if Region.wanted o (yielded ops a.tmps) = true then Oper.wp P o a W Kc Q else Kc (a.put o.dst undef) W := by
  rw [if_pos hw]
  unfold Oper.wp
  rw [hrun]
  exact h
namespace Kd
variable {α : Type}
theorem R_lit_step (d : Kd α) {w0 W : World} (base e : Nat) (hw : Region.wanted o (yielded ops a.tmps) = true) {N : Tmp} (_hd : o.dst = some N) {xs : List α} {inner : List Value} {ok okp : Nat → Prop}
    (hrun : (execOp a.eval o).run P W = .ok (.value (.slice (some ⟨W.heap.size, 0, none⟩) xs.length xs.length)) (W.alloc (.cells inner.toArray e)))
    (hrep : Reps (d.M W base okp) d.sz xs inner) (hok : ∀ k, okp k → ok k) (hfresh : ok W.heap.size) (HB : Below base w0 W) (hbase : base ≤ W.heap.size) (hm : xs.length ≤ 9223372036854775807)
    (h : ∀ v1 w1, d.R e w1 base ok v1 xs → Below base w0 w1 → W.grownBy w1 none → (∃ b, v1.ownBlock = some b ∧ W.heap.size ≤ b) → Kc (a.put o.dst v1) w1) : if Region.wanted o (yielded ops a.tmps) = true then Oper.wp P o a W Kc Q else Kc (a.put o.dst undef) W := by
  refine event_step hw hrun (h _ _ ⟨fun k hk => ?_, inner, ?_, ?_⟩ (HB.alloc hbase _) (World.grownBy_alloc W _ none) ⟨W.heap.size, by simp [Value.ownBlock], Nat.le_refl _⟩)
  · have : W.heap.size = k := by simpa [Value.ownBlock] using hk
    subst this
    exact hfresh
  · have h2 := World.ownsRow_lit (base := base) (e := e) (size := d.sz) W inner.toArray xs.length hbase (by simpa [maxLen] using hm) (by simpa using hrep.1)
    simpa using h2
  · refine hrep.imp_ (fun p c hp => d.M_mono (fun k hk => ⟨hok k hk.1, fun he => ?_⟩) (M_below (d.M_bound hp) (below_alloc (Below.refl _ _) _)))
    have h3 : k = W.heap.size := by simpa [Value.ownBlock] using he
    have := hk.2.2.1
    omega
theorem R_append_rows_step (d : Kd α) {Rr : α → List Value → Prop} {w0 W : World} (base : Nat) (hw : Region.wanted o (yielded ops a.tmps) = true) (s x : Operand) (t e : TypeId) (z : Value) (bytes : Nat)
    (ho : o.op = .call { callee := .builtin .append, args := #[s, x], argTypes := #[t, t] })
    (ht : P.underlying t = some (.slice e)) (hinfo : (P.info? e).map (fun i => (i.zero, i.size, i.bytes)) = some (some z, d.sz, bytes)) (hz : z.cells.size = d.sz) (hs0 : 0 < d.sz) (hb0 : 0 < bytes)
    (v : Value) (xs ys : List α) (A : Option Addr) (m c : Nat) (ok okp : Nat → Prop) (hs : a.eval s = v) (hx : a.eval x = .slice A m c)
    (HO : d.R e W base ok v xs) (HR : ReadsRow Rr d.sz W A m ys) (hKM : ∀ x cs, Rr x cs → d.M W base okp x cs) (hokp : ∀ k, okp k → ok k ∧ some k ≠ v.ownBlock) (hfresh : ∀ k, W.heap.size ≤ k → ok k)
    (HB : Below base w0 W) (hbase : base ≤ W.heap.size) (hl : (xs.length + m) * bytes ≤ 140737488355328)
    (h : ∀ v1 w1, d.R e w1 base ok v1 (xs ++ ys) → Below base w0 w1 → W.grownBy w1 v.ownBlock → (v1.ownBlock = v.ownBlock ∨ ∃ b, v1.ownBlock = some b ∧ W.heap.size ≤ b) → Kc (a.put o.dst v1) w1) :
    if Region.wanted o (yielded ops a.tmps) = true then Oper.wp P o a W Kc Q else Kc (a.put o.dst undef) W := by
  obtain ⟨i0, hi, hzz⟩ := Option.map_eq_some_iff.1 hinfo
  simp only [Prod.mk.injEq] at hzz
  obtain ⟨hz0, hz1, hz2⟩ := hzz
  have hm : ys.length = m := HR.1
  have hlen : xs.length + m ≤ 140737488355328 := Nat.le_trans (Nat.le_mul_of_pos_right _ hb0) hl
  obtain ⟨hok, inner, hown, hr⟩ := HO
  have hrun : ∃ v1 w1, (Builtin.append_ #[t, t] o.type #[v, .slice A m c]).run P W = .ok v1 w1 ∧ d.R e w1 base ok v1 (xs ++ ys) ∧ W.grownBy w1 v.ownBlock ∧ (v1.ownBlock = v.ownBlock ∨ ∃ b, v1.ownBlock = some b ∧ W.heap.size ≤ b) := by
    rcases A with _ | ad
    · have h0 : m = 0 := by
        rcases Nat.eq_zero_or_pos m with h0 | h0
        · exact h0
        · obtain ⟨ad, h, _⟩ := HR.2.2 h0
          cases h
      subst h0
      obtain rfl : ys = [] := List.eq_nil_of_length_eq_zero hm
      refine ⟨v, W, ?_, by rw [List.append_nil]; exact ⟨hok, inner, hown, hr⟩, World.grownBy.refl W _, .inl rfl⟩
      rcases hown.2 with ⟨rfl, hn⟩ | ⟨g, cap, cur, rfl, _, _, hnc, _⟩
      · simp [Builtin.append_, run_underlying ht, sizeOf, typeInfo, hi, Builtin.lenOf, Builtin.firstCells]
      · simp [Builtin.append_, run_underlying ht, sizeOf, typeInfo, hi, Builtin.lenOf, Builtin.firstCells, hnc, storeCells]
    · obtain ⟨news, hnr, hnc⟩ := ReadsRow.inner_ HR
      have hnM : Reps (d.M W base okp) d.sz ys news := hnr.imp_ (fun p c hp => hKM p c hp)
      have hone : ∀ u ∈ news, u.oneCell' = true := by
        intro u hu
        obtain ⟨q, hq, rfl⟩ := List.mem_iff_getElem.1 hu
        have hql : q / d.sz < ys.length := by
          rw [Nat.div_lt_iff_lt_mul hs0]
          rw [← hnM.1]
          exact hq
        have hc := hnM.2 (q / d.sz) _ (List.getElem?_eq_getElem hql)
        refine d.K_one (d.K_of_M hc) _ ?_
        rw [List.mem_iff_getElem?]
        refine ⟨q % d.sz, ?_⟩
        rw [List.getElem?_take, if_pos (Nat.mod_lt _ hs0), List.getElem?_drop, Nat.mul_comm, Nat.div_add_mod, List.getElem?_eq_getElem hq]
      obtain ⟨v1, w1, hrun, h2, hg, _, hat⟩ := run_append_own_at (P := P) W base t o.type e i0 z d.sz bytes ht hi hz0 hz1 hz2 hz hs0 v xs.length inner hown ad m c news (by rw [hnM.1, hm]) hnc hone (by simp only [maxLen]; omega) hl hbase
      have hat' : v1.ownBlock = v.ownBlock ∨ ∃ b, v1.ownBlock = some b ∧ W.heap.size ≤ b := by
        rcases hat with hat | hat
        · exact .inl hat
        · exact .inr ⟨_, hat, Nat.le_refl _⟩
      have hne : ∀ k, some k ≠ v.ownBlock → k < W.heap.size → some k ≠ v1.ownBlock := by
        intro k hk hlt
        rcases hat' with hat | ⟨b, hb, hle⟩
        · rw [hat]; exact hk
        · rw [hb]
          intro he
          injection he with he
          omega
      have step : ∀ {q : α} {c : List Value} {o : Nat → Prop}, d.M W base o q c → (∀ k, o k → ok k ∧ some k ≠ v.ownBlock) → d.M w1 base (fun k => ok k ∧ some k ≠ v1.ownBlock) q c := by
        intro q c o hq ho
        have h1 := d.M_move (w1 := w1) (fun k hk => hg.block k hk.2.2.1 (ho k hk.1).2) (d.M_bound hq)
        exact d.M_mono (fun k hk => ⟨(ho k hk.1).1, hne k (ho k hk.1).2 hk.2.2.1⟩) h1
      refine ⟨v1, w1, hrun, ⟨fun k hk => ?_, inner ++ news, by rw [List.length_append, hm]; exact h2, reps_append (hr.imp_ (fun _ _ hq => step hq (fun _ hk => hk))) (hnM.imp_ (fun _ _ hq => step hq hokp))⟩, hg, hat'⟩
      rcases hat' with hat | ⟨b, hb, hle⟩
      · exact hok k (hat ▸ hk)
      · rw [hb] at hk
        injection hk with hk
        exact hfresh k (by omega)
  obtain ⟨v1, w1, hr1, h1, hg, hat⟩ := hrun
  rw [if_pos hw]
  unfold Oper.wp execOp
  simp only [ho, resolve, invoke, builtin, Sem.run_bind, Sem.run_pure, Result.andThen_ok, List.map_toArray, List.map_cons, List.map_nil, hs, hx, hr1]
  exact h v1 w1 h1 (HB.grown hg hbase (own_base hown)) hg hat
end Kd
end
section
variable {P : Program} {tmps : Array Value} {w : World}
end
namespace Kd
section
variable {P : Program} {α : Type}
end
section
variable {P : Program} {ops : Array Oper} {rest : List Oper} {o : Oper} {a : Act} {Q : Exit → Act → World → Prop} {Kc : Act → World → Prop} {α : Type}
end
end Kd
end Go.Proofs.YtcbhnhoicecnnaaDoorW.PrintWords
end
namespace Go.Proofs.YtcbhnhoicecnnaaDoorW.PrintLast
section
variable {P : Program} {ops : Array Oper} {Q : Exit → Act → World → Prop} {md : Region.Mode} {S : World → Prop} {ds : List Nat}
def Region.reachB (md : Region.Mode) (ops : Array Oper) (i : Nat) : Nat → Nat → Bool
  | 0, _ => false
  | fuel + 1, d => match ops[d]? with
    | some o => o.after.any fun e => Region.binds md e && (e.on == i || Region.reachB md ops i fuel e.on)
    | none => false
def Region.closedB (md : Region.Mode) (ops : Array Oper) (listed : Array Bool) : Bool :=
  (List.range ops.size).all fun j => !listed.getD j false || match ops[j]? with
    | some o => o.after.all fun e => !Region.binds md e || listed.getD e.on false
    | none => true
def Region.lastB (md : Region.Mode) (ops : Array Oper) (listed : Array Bool) (ds : List Nat) (i : Nat) : Bool :=
  ds.all fun d => listed.getD d true || Region.reachB md ops i ops.size d
def ListedClosed (md : Region.Mode) (ops : Array Oper) (listed : Array Bool) : Prop :=
  ∀ j oj, ops[j]? = some oj → listed.getD j false = true → ∀ e ∈ oj.after, Region.binds md e = true → listed.getD e.on false = true
theorem Region.closedB_spec {listed : Array Bool} (h : Region.closedB md ops listed = true) : ListedClosed md ops listed := by
  intro j oj hj hl e he hb
  have hlt : j < ops.size := (Array.getElem?_eq_some_iff.1 hj).1
  have h1 := List.all_eq_true.1 h j (List.mem_range.2 hlt)
  simp only [hl, hj, Bool.not_true, Bool.false_or] at h1
  have h2 := Array.all_eq_true_iff_forall_mem.1 h1 e he
  simpa [hb] using h2
theorem ListedClosed.set {listed : Array Bool} {i : Nat} (h : ListedClosed md ops listed) (hi : i ∈ Region.ready md ops listed) : ListedClosed md ops (listed.setIfInBounds i true) := by
  obtain ⟨_, oi, hoi, hall⟩ := mem_ready.1 hi
  intro j oj hj hl e he hb
  by_cases hij : i = j
  · subst hij
    have : oj = oi := Option.some.inj (hj.symm.trans hoi)
    subst this
    exact getD_set_true (hall e he hb)
  · rw [getD_set_ne false hij] at hl
    exact getD_set_true (h j oj hj hl e he hb)
theorem Region.reach_listed {listed : Array Bool} {i : Nat} (hc : ListedClosed md ops listed) : ∀ (fuel d : Nat), Region.reachB md ops i fuel d = true → listed.getD d false = true → listed.getD i false = true
  | 0, _, h, _ => by simp [Region.reachB] at h
  | fuel + 1, d, h, hl => by
    unfold Region.reachB at h
    cases ho : ops[d]? with
    | none => rw [ho] at h; simp at h
    | some o =>
      rw [ho] at h
      obtain ⟨e, he, h1⟩ := Array.any_eq_true'.1 h
      simp only [Bool.and_eq_true, Bool.or_eq_true, beq_iff_eq] at h1
      have hle := hc d o ho hl e he h1.1
      rcases h1.2 with h2 | h2
      · rw [← h2]; exact hle
      · exact Region.reach_listed hc fuel e.on h2 hle
theorem Region.reach_not_ready {listed : Array Bool} {i d fuel : Nat} (hc : ListedClosed md ops listed) (hr : Region.reachB md ops i fuel d = true) (hun : listed.getD i true = false) : d ∉ Region.ready md ops listed := by
  intro hd
  obtain ⟨_, o, ho, hall⟩ := mem_ready.1 hd
  have hi : listed.getD i false = true := by
    cases fuel with
    | zero => simp [Region.reachB] at hr
    | succ n =>
      unfold Region.reachB at hr
      rw [ho] at hr
      obtain ⟨e, he, h1⟩ := Array.any_eq_true'.1 hr
      simp only [Bool.and_eq_true, Bool.or_eq_true, beq_iff_eq] at h1
      have hle := hall e he h1.1
      rcases h1.2 with h2 | h2
      · rw [← h2]; exact hle
      · exact Region.reach_listed hc n e.on h2 hle
  rcases Nat.lt_or_ge i listed.size with h' | h'
  · simp [h'] at hun hi
    rw [hun] at hi
    cases hi
  · simp [Array.getElem?_eq_none h'] at hun
def wpAnyLast (P : Program) (md : Region.Mode) (ops : Array Oper) (Q : Exit → Act → World → Prop) (S : World → Prop) (ds : List Nat) : Nat → Array Bool → Act → World → Prop
  | 0, listed, a, w => Region.ready md ops listed = [] ∧ Q .normal a w
  | fuel + 1, listed, a, w =>
    (Region.ready md ops listed = [] → Q .normal a w) ∧
    ∀ i ∈ Region.ready md ops listed, wpOp P ops Q i (fun a' w' => (i ∉ ds → S w → S w') ∧ wpAnyLast P md ops Q S ds fuel (listed.setIfInBounds i true) a' w') a w
theorem wpAny_of_last : ∀ (fuel : Nat) (listed : Array Bool) (a : Act) (w : World), wpAnyLast P md ops Q S ds fuel listed a w → wpAny P md ops Q fuel listed a w
  | 0, _, _, _, h => h
  | fuel + 1, _, _, _, h => ⟨h.1, fun i hi => wpOp_mono (fun a' w' h' => wpAny_of_last fuel _ a' w' h'.2) (h.2 i hi)⟩
theorem wpAnyLast_first {i : Nat} {oi : Oper} {v : Value} (hi : ops[i]? = some oi) (hsel : ∀ (j : Nat) (o : Oper) cs b, ops[j]? = some o → o.op ≠ .select cs b)
    (hQ : ∀ c a w, Q (.panic c) (a.put oi.dst v) w → Q (.panic c) a w) (n : Nat) :
    ∀ (fuel : Nat) (listed : Array Bool) (a : Act) (w : World),
      (∀ j oj, ops[j]? = some oj → j ≠ i → listed.getD j true = false → (∀ e ∈ oj.after, Region.binds md e = true → e.on ≠ i) → oi.apart ops oj = true) →
      ListedClosed md ops listed → (∀ d ∈ ds, listed.getD d true = false → Region.reachB md ops i n d = true) →
      i ∈ Region.ready md ops listed → YieldsIf P ops S oi v a → S w →
      wpAnyLast P md ops Q S ds fuel (listed.setIfInBounds i true) (a.put oi.dst v) w → wpAnyLast P md ops Q S ds (fuel + 1) listed a w := by
  intro fuel
  induction fuel with
  | zero =>
    intro listed a w _ _ _ hr hy hS H
    refine ⟨fun h => (by rw [h] at hr; cases hr), fun j hj => ?_⟩
    by_cases hji : j = i
    · subst hji; exact hy.wpOp hi hS ⟨fun _ h => h, H⟩
    · have := ready_mono hj hji
      rw [H.1] at this
      cases this
  | succ fuel ih =>
    intro listed a w hfree hc hd hr hy hS H
    refine ⟨fun h => (by rw [h] at hr; cases hr), fun j hj => ?_⟩
    by_cases hji : j = i
    · subst hji; exact hy.wpOp hi hS ⟨fun _ h => h, H⟩
    · have h1 := H.2 j (ready_mono hj hji)
      obtain ⟨hjun, oj, hoj, hall⟩ := mem_ready.1 hj
      have hiun := (mem_ready.1 hr).1
      have hnot : ∀ e ∈ oj.after, Region.binds md e = true → e.on ≠ i := fun e he hb heq => by
        have h1 := hall e he hb
        rw [heq] at h1
        rcases Nat.lt_or_ge i listed.size with h' | h'
        · simp [h'] at hiun h1; rw [hiun] at h1; cases h1
        · simp [Array.getElem?_eq_none h'] at h1
      have hjd : j ∉ ds := fun hm => Region.reach_not_ready hc (hd j hm hjun) hiun hj
      have h2 := wpOp_putIf hoj (hfree j oj hoj hji hjun hnot) (fun cs b => hsel i oi cs b hi) (fun cs b => hsel j oj cs b hoj) hQ hy h1
      have hfree' : ∀ k ok, ops[k]? = some ok → k ≠ i → (listed.setIfInBounds j true).getD k true = false →
          (∀ e ∈ ok.after, Region.binds md e = true → e.on ≠ i) → oi.apart ops ok = true := fun k ok hk hki hun hno => by
        refine hfree k ok hk hki ?_ hno
        by_cases hjk : j = k
        · subst hjk; exact hjun
        · rw [getD_set_ne true hjk] at hun; exact hun
      have hd' : ∀ d ∈ ds, (listed.setIfInBounds j true).getD d true = false → Region.reachB md ops i n d = true := fun d hm hun => by
        refine hd d hm ?_
        by_cases hjk : j = d
        · subst hjk; exact hjun
        · rw [getD_set_ne true hjk] at hun; exact hun
      refine wpOp_mono (fun a' w' h3 => ⟨h3.2.1, ih (listed.setIfInBounds j true) a' w' hfree' (hc.set hj) hd' (ready_mono hr (Ne.symm hji)) h3.1 (h3.2.1 hjd hS) ?_⟩) h2
      rw [Array.setIfInBounds_comm _ _ hji]
      exact h3.2.2
theorem wpAnyLast_any {i : Nat} {oi : Oper} {v : Value} (hi : ops[i]? = some oi) (hsel : ∀ (j : Nat) (o : Oper) cs b, ops[j]? = some o → o.op ≠ .select cs b)
    (hQ : ∀ c a w, Q (.panic c) (a.put oi.dst v) w → Q (.panic c) a w) :
    ∀ (fuel : Nat) (listed : Array Bool) (a : Act) (w : World),
      (∀ j oj, ops[j]? = some oj → j ≠ i → listed.getD j true = false → (∀ e ∈ oj.after, Region.binds md e = true → e.on ≠ i) → oi.apart ops oj = true) →
      i ∈ Region.ready md ops listed → Yields P ops oi v a →
      wpAnyLast P md ops Q S ds fuel (listed.setIfInBounds i true) (a.put oi.dst v) w → wpAnyLast P md ops Q S ds (fuel + 1) listed a w := by
  intro fuel
  induction fuel with
  | zero =>
    intro listed a w _ hr hy H
    refine ⟨fun h => (by rw [h] at hr; cases hr), fun j hj => ?_⟩
    by_cases hji : j = i
    · subst hji; exact (hy.yieldsIf (S := fun _ => True)).wpOp hi trivial ⟨fun _ h => h, H⟩
    · have := ready_mono hj hji
      rw [H.1] at this
      cases this
  | succ fuel ih =>
    intro listed a w hfree hr hy H
    refine ⟨fun h => (by rw [h] at hr; cases hr), fun j hj => ?_⟩
    by_cases hji : j = i
    · subst hji; exact (hy.yieldsIf (S := fun _ => True)).wpOp hi trivial ⟨fun _ h => h, H⟩
    · have h1 := H.2 j (ready_mono hj hji)
      obtain ⟨hjun, oj, hoj, hall⟩ := mem_ready.1 hj
      have hiun := (mem_ready.1 hr).1
      have hnot : ∀ e ∈ oj.after, Region.binds md e = true → e.on ≠ i := fun e he hb heq => by
        have h1 := hall e he hb
        rw [heq] at h1
        rcases Nat.lt_or_ge i listed.size with h' | h'
        · simp [h'] at hiun h1; rw [hiun] at h1; cases h1
        · simp [Array.getElem?_eq_none h'] at h1
      have h2 := wpOp_put hoj (hfree j oj hoj hji hjun hnot) (fun cs b => hsel i oi cs b hi) (fun cs b => hsel j oj cs b hoj) hQ hy h1
      have hfree' : ∀ k ok, ops[k]? = some ok → k ≠ i → (listed.setIfInBounds j true).getD k true = false →
          (∀ e ∈ ok.after, Region.binds md e = true → e.on ≠ i) → oi.apart ops ok = true := fun k ok hk hki hun hno => by
        refine hfree k ok hk hki ?_ hno
        by_cases hjk : j = k
        · subst hjk; exact hjun
        · rw [getD_set_ne true hjk] at hun; exact hun
      refine wpOp_mono (fun a' w' h3 => ⟨h3.2.1, ih (listed.setIfInBounds j true) a' w' hfree' (ready_mono hr (Ne.symm hji)) h3.1 ?_⟩) h2
      rw [Array.setIfInBounds_comm _ _ hji]
      exact h3.2.2
theorem wpAnyLast_take {i : Nat} {oi : Oper} {v : Value} {fuel : Nat} {listed : Array Bool} {a : Act} {w : World} (hi : ops[i]? = some oi)
    (hs : Region.noSelect ops = true) (hf : Region.free md ops listed i = true) (hr : (Region.ready md ops listed).contains i = true)
    (hc : Region.closedB md ops listed = true) (hl : Region.lastB md ops listed ds i = true)
    (hQ : ∀ c a w, Q (.panic c) (a.put oi.dst v) w → Q (.panic c) a w) (hy : YieldsIf P ops S oi v a) (hS : S w)
    (h : wpAnyLast P md ops Q S ds fuel (listed.setIfInBounds i true) (a.put oi.dst v) w) : wpAnyLast P md ops Q S ds (fuel + 1) listed a w :=
  wpAnyLast_first hi (Region.noSelect_spec hs) hQ ops.size fuel listed a w (Region.free_spec hi hf) (Region.closedB_spec hc)
    (fun d hm hun => by have := List.all_eq_true.1 hl d hm; rw [hun] at this; simpa using this) (by simpa using hr) hy hS h
theorem wpAnyLast_all {rs : List Nat} {fuel : Nat} {listed : Array Bool} {a : Act} {w : World} (hr : Region.ready md ops listed = rs) (hne : rs ≠ [])
    (h : ∀ i ∈ rs, wpOp P ops Q i (fun a' w' => (i ∉ ds → S w → S w') ∧ wpAnyLast P md ops Q S ds fuel (listed.setIfInBounds i true) a' w') a w) : wpAnyLast P md ops Q S ds (fuel + 1) listed a w :=
  ⟨fun h0 => absurd (hr ▸ h0) hne, hr ▸ h⟩
theorem wpAnyLast_done {listed : Array Bool} {a : Act} {w : World} (hr : Region.ready md ops listed = []) (h : Q .normal a w) :
    ∀ fuel, wpAnyLast P md ops Q S ds fuel listed a w
  | 0 => ⟨hr, h⟩
  | _ + 1 => ⟨fun _ => h, by rw [hr]; simp⟩
theorem wp_region_last {id : Nat} {a : Act} {w : World} (hm : P.follows .mixedOrders = true)
    (h : wpAnyLast P .any ops Q S ds ops.size (Array.replicate ops.size false) a { w with drawn := w.drawn + 1 }) : (Code.region id ops true).wp P Q a w :=
  wp_region_any hm (wpAny_of_last _ _ _ _ h)
end
section
variable {P : Program} {ops : Array Oper} {Q : Exit → Act → World → Prop} {md : Region.Mode} {S : World → Prop} {ds : List Nat}
def AllReadyL (P : Program) (md : Region.Mode) (ops : Array Oper) (Q : Exit → Act → World → Prop) (S : World → Prop) (ds : List Nat) (fuel : Nat) (listed : Array Bool) (a : Act) (w : World) (rs : List Nat) : Prop :=
  ∀ i ∈ rs, wpOp P ops Q i (fun a' w' => (i ∉ ds → S w → S w') ∧ wpAnyLast P md ops Q S ds fuel (listed.setIfInBounds i true) a' w') a w
theorem AllReadyL.nil {fuel : Nat} {listed : Array Bool} {a : Act} {w : World} : AllReadyL P md ops Q S ds fuel listed a w [] := fun _ h => by cases h
theorem AllReadyL.cons {fuel : Nat} {listed : Array Bool} {a : Act} {w : World} {i : Nat} {o : Oper} {rs : List Nat} (ho : ops[i]? = some o) (hd : i ∉ ds)
    (h : ∀ K' : Act → World → Prop, Shut (∀ a w, S w → (S w → wpAnyLast P md ops Q S ds fuel (listed.setIfInBounds i true) a w) → K' a w) → if Region.wanted o (yielded ops a.tmps) = true then Oper.wp P o a w K' Q else K' (a.put o.dst undef) w)
    (hs : AllReadyL P md ops Q S ds fuel listed a w rs) : AllReadyL P md ops Q S ds fuel listed a w (i :: rs) := fun j hj => by
  rcases List.mem_cons.1 hj with rfl | hj
  · exact wpOp_step ho (fun K' hK => h K' (fun a w hS hW => hK a w ⟨fun _ _ => hS, hW hS⟩))
  · exact hs j hj
theorem AllReadyL.cons_last {fuel : Nat} {listed : Array Bool} {a : Act} {w : World} {i : Nat} {o : Oper} {rs : List Nat} (ho : ops[i]? = some o) (hd : i ∈ ds)
    (h : ∀ K' : Act → World → Prop, Shut (∀ a w, wpAnyLast P md ops Q S ds fuel (listed.setIfInBounds i true) a w → K' a w) → if Region.wanted o (yielded ops a.tmps) = true then Oper.wp P o a w K' Q else K' (a.put o.dst undef) w)
    (hs : AllReadyL P md ops Q S ds fuel listed a w rs) : AllReadyL P md ops Q S ds fuel listed a w (i :: rs) := fun j hj => by
  rcases List.mem_cons.1 hj with rfl | hj
  · exact wpOp_step ho (fun K' hK => h K' (fun a w hW => hK a w ⟨fun hn => absurd hd hn, hW⟩))
  · exact hs j hj
theorem wpAnyLast_ready {rs : List Nat} {fuel : Nat} {listed : Array Bool} {a : Act} {w : World} (hr : Region.ready md ops listed = rs) (hne : rs ≠ [])
    (h : AllReadyL P md ops Q S ds fuel listed a w rs) : wpAnyLast P md ops Q S ds (fuel + 1) listed a w := wpAnyLast_all hr hne h
theorem start_ {id n : Nat} {a : Act} {w : World} (l : Array Bool) (hm : P.follows .mixedOrders = true) (hn : ops.size = n) (hl : Array.replicate n false = l) (hS : S w.drew)
    (h : S w.drew → wpAnyLast P .any ops Q S ds n l a w.drew) : (Code.region id ops true).wp P Q a w := by
  subst hn
  subst hl
  exact wp_region_last hm (h hS)
def takeB (md : Region.Mode) (ops : Array Oper) (ds : List Nat) (l l' : Array Bool) (i : Nat) : Bool :=
  Region.noSelect ops && Region.free md ops l i && (Region.ready md ops l).contains i && Region.closedB md ops l && Region.lastB md ops l ds i && (l.setIfInBounds i true == l')
theorem take_ {i : Nat} {N : Option Tmp} {oi : Oper} {v : Value} {fuel : Nat} {l : Array Bool} {a : Act} {w : World} (l' : Array Bool) (hi : ops[i]? = some oi) (hN : oi.dst = N) (hc : takeB md ops ds l l' i = true)
    (hQ : ∀ c a w, Q (.panic c) (a.put oi.dst v) w → Q (.panic c) a w) (hy : YieldsIf P ops S oi v a) (hS : S w) {a' : Act} (ha : a.put N v = a')
    (h : wpAnyLast P md ops Q S ds fuel l' a' w) : wpAnyLast P md ops Q S ds (fuel + 1) l a w := by
  subst ha
  subst hN
  simp only [takeB, Bool.and_eq_true, beq_iff_eq] at hc
  obtain ⟨⟨⟨⟨⟨h1, h2⟩, h3⟩, h4⟩, h5⟩, h6⟩ := hc
  subst h6
  exact wpAnyLast_take hi h1 h2 h3 h4 h5 hQ hy hS h
def anyB (md : Region.Mode) (ops : Array Oper) (l l' : Array Bool) (i : Nat) : Bool :=
  Region.noSelect ops && Region.free md ops l i && (Region.ready md ops l).contains i && (l.setIfInBounds i true == l')
theorem pure_ {i : Nat} {N : Option Tmp} {oi : Oper} {v : Value} {fuel : Nat} {l : Array Bool} {a : Act} {w : World} (l' : Array Bool) (hi : ops[i]? = some oi) (hN : oi.dst = N) (hc : anyB md ops l l' i = true)
    (hQ : ∀ c a w, Q (.panic c) (a.put oi.dst v) w → Q (.panic c) a w) (hy : Yields P ops oi v a) {a' : Act} (ha : a.put N v = a')
    (h : wpAnyLast P md ops Q S ds fuel l' a' w) : wpAnyLast P md ops Q S ds (fuel + 1) l a w := by
  subst ha
  subst hN
  simp only [anyB, Bool.and_eq_true, beq_iff_eq] at hc
  obtain ⟨⟨⟨h1, h2⟩, h3⟩, h6⟩ := hc
  subst h6
  exact wpAnyLast_any hi (Region.noSelect_spec h1) hQ fuel l a w (Region.free_spec hi h2) (by simpa using h3) hy h
def readyB (md : Region.Mode) (ops : Array Oper) (l l' : Array Bool) (i : Nat) : Bool := (Region.ready md ops l == [i]) && (l.setIfInBounds i true == l')
theorem one_ {i : Nat} {N : Option Tmp} {oi : Oper} {fuel : Nat} {l : Array Bool} {a : Act} {w : World} (l' : Array Bool) (hi : ops[i]? = some oi) (hN : oi.dst = N) (hc : readyB md ops l l' i = true) (hd : i ∉ ds)
    (h : ∀ K : Act → World → Prop, Shut (∀ a' w', S w' → (S w' → wpAnyLast P md ops Q S ds fuel l' a' w') → K a' w') → if Region.wanted oi (yielded ops a.tmps) = true then Oper.wp P oi a w K Q else K (a.put N undef) w) :
    wpAnyLast P md ops Q S ds (fuel + 1) l a w := by
  subst hN
  simp only [readyB, Bool.and_eq_true, beq_iff_eq] at hc
  obtain ⟨h1, h2⟩ := hc
  subst h2
  exact wpAnyLast_ready h1 (by simp) (AllReadyL.cons hi hd (fun K hK => h K hK) AllReadyL.nil)
theorem done_ {l : Array Bool} {a : Act} {w : World} {n : Nat} (hr : (Region.ready md ops l == []) = true) (h : Q .normal a w) : wpAnyLast P md ops Q S ds n l a w := wpAnyLast_done (by simpa using hr) h n
theorem two_ {i j : Nat} {Ni Nj : Option Tmp} {oi oj : Oper} {fuel : Nat} {l : Array Bool} {a : Act} {w : World} (li lj : Array Bool) (hi : ops[i]? = some oi) (hj : ops[j]? = some oj) (hNi : oi.dst = Ni) (hNj : oj.dst = Nj)
    (hc : (Region.ready md ops l == [i, j] && l.setIfInBounds i true == li && l.setIfInBounds j true == lj) = true) (hdi : i ∉ ds) (hdj : j ∉ ds)
    (h1 : ∀ K : Act → World → Prop, Shut (∀ a' w', S w' → (S w' → wpAnyLast P md ops Q S ds fuel li a' w') → K a' w') → if Region.wanted oi (yielded ops a.tmps) = true then Oper.wp P oi a w K Q else K (a.put Ni undef) w)
    (h2 : ∀ K : Act → World → Prop, Shut (∀ a' w', S w' → (S w' → wpAnyLast P md ops Q S ds fuel lj a' w') → K a' w') → if Region.wanted oj (yielded ops a.tmps) = true then Oper.wp P oj a w K Q else K (a.put Nj undef) w) :
    wpAnyLast P md ops Q S ds (fuel + 1) l a w := by
  subst hNi
  subst hNj
  simp only [Bool.and_eq_true, beq_iff_eq] at hc
  obtain ⟨⟨h3, h4⟩, h5⟩ := hc
  subst h4
  subst h5
  exact wpAnyLast_ready h3 (by simp) (AllReadyL.cons hi hdi (fun K hK => h1 K hK) (AllReadyL.cons hj hdj (fun K hK => h2 K hK) AllReadyL.nil))
def putAll : Act → List (Tmp × Value) → Act
  | a, [] => a
  | a, (n, v) :: r => putAll (a.put (some n) v) r
theorem join_ {σ : Type} {fuel : Nat} {l : Array Bool} {a : Act} {w : World} (fuel' : Nat) (l' : Array Bool) (ns : σ → List (Tmp × Value)) (F : σ → World → Prop)
    (hcont : ∀ s w', F s w' → wpAnyLast P md ops Q S ds fuel' l' (putAll a (ns s)) w')
    (h : (∀ s w', F s w' → wpAnyLast P md ops Q S ds fuel' l' (putAll a (ns s)) w') → wpAnyLast P md ops Q S ds fuel l a w) : wpAnyLast P md ops Q S ds fuel l a w := h hcont
theorem norm_ {fuel : Nat} {l : Array Bool} {a a' : Act} {w : World} (ha : a = a') (h : wpAnyLast P md ops Q S ds fuel l a' w) : wpAnyLast P md ops Q S ds fuel l a w := by
  subst ha
  exact h
theorem enters_ {f : FuncId} {fn : Func} (hf : P.funcs[f]? = some fn) (hname : (fn.name == "runtime.NumGoroutine") = false) (hb : fn.body.isSome = true) (args : Array Value) (w : World) : (callFunc f args).run P w = .ok (.enter f args) w := by
  have h1 : fn.name ≠ "runtime.NumGoroutine" := by simpa using hname
  obtain ⟨c, hc⟩ := Option.isSome_iff_exists.1 hb
  simp [callFunc, hf, h1, hc]
theorem goesL_ {rest : List Oper} {oi : Oper} {a : Act} {w : World} (N : Option Tmp) (hd : oi.dst = N) (hg : oi.guard = none) {f : FuncId} {fn : Func} {as_ : Array Operand} {ts : Array TypeId} (hf : P.funcs[f]? = some fn) (hname : (fn.name == "runtime.NumGoroutine") = false) (hb : fn.body.isSome = true) (args : Array Value)
    (hop : oi.op = .call { callee := .value (.func f), args := as_, argTypes := ts }) (hargs : as_.map a.eval = args)
    (h : Calls P f args w fun e w' => ∃ v, e = .returned v ∧ wpList P ops Q rest (a.put N v) w') : wpList P ops Q (oi :: rest) a w := by
  refine wpList_plain hg fun K hK => ?_
  have he := enters_ hf hname hb args w
  have hrun : (execOp a.eval oi).run P w = .ok (.enter f args) w := by
    unfold execOp
    simp [hop, resolve, Deferred.ofValue, invoke, Act.eval, hargs, he]
  unfold Oper.wp
  rw [hrun, Oper.upon_enter]
  refine h.mono fun e w'' hh => ?_
  obtain ⟨v, rfl, hk⟩ := hh
  subst hd
  exact hK _ _ hk
theorem i64_w (n : Int) : IntKind.i64.wrap n = Go.RowKit.wrap64 n := by unfold Go.RowKit.wrap64; exact IntKind.wrap_i64 n
theorem i32_w (n : Int) : IntKind.i32.wrap n = Go.RowKit.wrap32 n := by unfold Go.RowKit.wrap32; exact IntKind.wrap_i32 n
end
end Go.Proofs.YtcbhnhoicecnnaaDoorW.PrintLast
namespace Go.Proofs.YtcbhnhoicecnnaaDoorW.PrintWords
open Go.RowKit
namespace Kd
def tag {α : Type} (f : Nat → Nat) (d : Kd α) : Kd (α × Nat) where
  sz := d.sz
  E := d.E
  K := fun w x cs => d.K w x.1 cs
  M := fun w base ok x cs => d.M w base (fun k => ok k ∧ f k = x.2) x.1 cs
  K_len := fun h => d.K_len h
  K_one := fun h => d.K_one h
  K_below := fun hb h => d.K_below hb h
  K_of_M := fun h => d.K_of_M h
  M_mono := fun hok h => d.M_mono (fun k hk => ⟨hok k hk.1, hk.2⟩) h
  M_bound := fun h => d.M_mono (fun _ hk => ⟨⟨hk.1.1, hk.2⟩, hk.1.2⟩) (d.M_bound h)
  M_move := fun hm h => d.M_move (fun k hk => hm k hk.1) h
  M_lower := fun hb h => d.M_lower hb h
def raw (sz : Nat) : Kd (List Value) where
  sz := sz
  E := []
  K := fun _ x cs => cs = x ∧ cs.length = sz ∧ ∀ u ∈ cs, u.oneCell' = true
  M := fun _ _ _ x cs => cs = x ∧ cs.length = sz ∧ ∀ u ∈ cs, u.oneCell' = true
  K_len := fun h => h.2.1
  K_one := fun h => h.2.2
  K_below := fun _ h => h
  K_of_M := fun h => h
  M_mono := fun _ h => h
  M_bound := fun h => h
  M_move := fun _ h => h
  M_lower := fun _ h => h
def S {α : Type} (d : Kd α) (e : Nat) (w : World) (base : Nat) (ok : Nat → Prop) (v : Value) (xs : List α) : Prop := ∃ f, (tag f d).R e w base ok v xs.zipIdx
section
variable {α β : Type} {d : Kd α} {d' : Kd β} {e e' : Nat} {w w1 W : World} {base b : Nat} {ok ok' okv oku : Nat → Prop} {u v : Value} {xs : List α} {ys : List β}
end
section
variable {α β : Type} {d : Kd α} {d' : Kd β} {e e' g : Nat} {w w1 W : World} {base b : Nat} {ok ok' okv oku : Nat → Prop} {u v : Value} {xs : List α} {ys : List β}
end
section
variable {P : Program} {ops : Array Oper} {rest : List Oper} {o : Oper} {a : Act} {Q : Exit → Act → World → Prop} {Kc : Act → World → Prop} {α : Type}
end
def gap {α : Type} (f : Nat → Nat) (d : Kd α) (i : Nat) (c : List Value) : Kd (α × Nat) where
  sz := d.sz
  E := d.E
  K := fun w x cs => (x.2 = i → cs = c ∧ cs.length = d.sz ∧ ∀ u ∈ cs, u.oneCell' = true) ∧ (x.2 ≠ i → d.K w x.1 cs)
  M := fun w base ok x cs => (x.2 = i → cs = c ∧ cs.length = d.sz ∧ ∀ u ∈ cs, u.oneCell' = true) ∧ (x.2 ≠ i → d.M w base (fun k => ok k ∧ f k = x.2) x.1 cs)
  K_len := fun {w x cs} h => by
    by_cases hx : x.2 = i
    · exact (h.1 hx).2.1
    · exact d.K_len (h.2 hx)
  K_one := fun {w x cs} h => by
    by_cases hx : x.2 = i
    · exact (h.1 hx).2.2
    · exact d.K_one (h.2 hx)
  K_below := fun hb h => ⟨h.1, fun hx => d.K_below hb (h.2 hx)⟩
  K_of_M := fun h => ⟨h.1, fun hx => d.K_of_M (h.2 hx)⟩
  M_mono := fun hok h => ⟨h.1, fun hx => d.M_mono (fun k hk => ⟨hok k hk.1, hk.2⟩) (h.2 hx)⟩
  M_bound := fun h => ⟨h.1, fun hx => d.M_mono (fun _ hk => ⟨⟨hk.1.1, hk.2⟩, hk.1.2⟩) (d.M_bound (h.2 hx))⟩
  M_move := fun hm h => ⟨h.1, fun hx => d.M_move (fun k hk => hm k hk.1) (h.2 hx)⟩
  M_lower := fun hb h => ⟨h.1, fun hx => d.M_lower hb (h.2 hx)⟩
def H {α : Type} (d : Kd α) (e : Nat) (w : World) (base : Nat) (ok : Nat → Prop) (v : Value) (xs : List α) (i : Int) (oki : Nat → Prop) (c : List Value) : Prop :=
  (∀ k, oki k → ok k) ∧ ∃ f, (gap f d i.toNat c).R e w base (fun k => ok k ∧ ¬ oki k) v xs.zipIdx
section
variable {α β : Type} {d : Kd α} {e e' g n cap : Nat} {w w1 W : World} {base : Nat} {ok ok' oki okp : Nat → Prop} {u v : Value} {xs : List α} {i : Int} {c : List Value}
end
section
variable {P : Program} {ops : Array Oper} {rest : List Oper} {o : Oper} {a : Act} {Q : Exit → Act → World → Prop} {α : Type}
end
end Kd
end Go.Proofs.YtcbhnhoicecnnaaDoorW.PrintWords
namespace Go.Proofs.YtcbhnhoicecnnaaDoorW.PrintWords
open Go.RowKit
def Foot (P : World → Prop) (W : World) (ok : Nat → Prop) : Prop := ∀ W' : World, (∀ k, ok k → k < W.heap.size → W'.heap[k]? = W.heap[k]?) → P W'
theorem heap_lt {W W1 : World} {k : Nat} (h : W1.heap[k]? = W.heap[k]?) (hlt : k < W.heap.size) : k < W1.heap.size := by
  rw [Array.getElem?_eq_getElem hlt] at h
  exact (Array.getElem?_eq_some_iff.1 h).1
namespace Foot
variable {P Q : World → Prop} {W W1 : World} {ok ok' : Nat → Prop}
theorem now (h : Foot P W ok) : P W := h W (fun _ _ _ => rfl)
theorem mono (h : Foot P W ok) (hok : ∀ k, ok k → ok' k) : Foot P W ok' := fun W' hW => h W' (fun k hk hlt => hW k (hok k hk) hlt)
theorem bound (h : Foot P W ok) : Foot P W (fun k => ok k ∧ k < W.heap.size) := fun W' hW => h W' (fun k hk hlt => hW k ⟨hk, hlt⟩ hlt)
theorem step (h : Foot P W ok) (hm : ∀ k, ok k → k < W.heap.size → W1.heap[k]? = W.heap[k]?) : Foot P W1 ok := fun W' hW => h W' (fun k hk hlt => (hW k hk (heap_lt (hm k hk hlt) hlt)).trans (hm k hk hlt))
theorem imp (h : Foot P W ok) (hi : ∀ W', P W' → Q W') : Foot Q W ok := fun W' hW => hi W' (h W' hW)
theorem old (h : Foot P W ok) (hb : Below W.heap.size W W1) : Foot P W1 (fun k => ok k ∧ k < W.heap.size) := (h.bound).step (fun k _ hlt => hb.block k hlt)
end Foot
namespace Kd
def F {α : Type} (d : Kd α) (W : World) (ok : Nat → Prop) (A : Option Addr) (n : Nat) (xs : List α) : Prop := Foot (fun W => d.C W A n xs) W ok
def FK {α : Type} (d : Kd α) (W : World) (ok : Nat → Prop) (x : α) (c : List Value) : Prop := Foot (fun W => d.K W x c) W ok
section
variable {α β : Type} {d : Kd α} {e base n n' cc g N : Nat} {ok ok' okp S : Nat → Prop} {w w0 w1 W W1 : World} {A A' : Option Addr} {u v v1 : Value} {xs : List α} {xs' : List β} {d' : Kd β} {x : α} {c : List Value}
end
end Kd
end Go.Proofs.YtcbhnhoicecnnaaDoorW.PrintWords
namespace Go.Proofs.YtcbhnhoicecnnaaDoorW.PrintWords
open Go.RowKit
namespace Kd
section
variable {α : Type} {d : Kd α} {e base n cc g : Nat} {ok ok' okp S : Nat → Prop} {w w1 W W1 : World} {A : Option Addr} {u v v1 : Value} {xs : List α} {x : α} {c : List Value}
def N {α : Type} (d : Kd α) (e : Nat) (w : World) (base : Nat) (ok : Nat → Prop) (v : Value) (xs : List α) : Prop :=
  (∀ k, v.ownBlock = some k → ok k) ∧ ∃ rows : List (List Value), rows.length = xs.length ∧ (raw d.sz).R e w base (fun k => some k = v.ownBlock) v rows ∧ ∀ (j : Nat) (x : α) (c : List Value), xs[j]? = some x → rows[j]? = some c → FK d w (fun k => ok k ∧ some k ≠ v.ownBlock) x c
end
end Kd
end Go.Proofs.YtcbhnhoicecnnaaDoorW.PrintWords
namespace Go.Proofs.YtcbhnhoicecnnaaDoorW.PrintMore
open Go.RowKit Go.Proofs.YtcbhnhoicecnnaaDoorW.PrintWords
namespace Kd
open Go.Proofs.YtcbhnhoicecnnaaDoorW.PrintWords.Kd
end Kd
namespace Kd
open Go.Proofs.YtcbhnhoicecnnaaDoorW.PrintWords.Kd
section
variable {α : Type} {d : Kd α} {e base g N : Nat} {ok : Nat → Prop} {W w1 : World} {u v : Value} {xs : List α}
end
end Kd
theorem max2_int (k k' : IntKind) (x y : Int) : Builtin.max2 (.int k x) (.int k' y) = pure (.int k (if x < y then y else x)) := by simp only [Builtin.max2, gt_iff_lt]
theorem min2_int (k k' : IntKind) (x y : Int) : Builtin.min2 (.int k x) (.int k' y) = pure (.int k (if y < x then y else x)) := by simp only [Builtin.min2]
theorem max_two (ats : Array TypeId) (ty : TypeId) (a b : Value) : Builtin.max_ ats ty #[a, b] = (Builtin.max2 a b >>= fun s => pure s) := by simp only [Builtin.max_, List.foldlM_cons, List.foldlM_nil]
theorem min_two (ats : Array TypeId) (ty : TypeId) (a b : Value) : Builtin.min_ ats ty #[a, b] = (Builtin.min2 a b >>= fun s => pure s) := by simp only [Builtin.min_, List.foldlM_cons, List.foldlM_nil]
theorem max_three (ats : Array TypeId) (ty : TypeId) (a b c : Value) : Builtin.max_ ats ty #[a, b, c] = (Builtin.max2 a b >>= fun s => Builtin.max2 s c >>= fun s => pure s) := by simp only [Builtin.max_, List.foldlM_cons, List.foldlM_nil]
theorem min_three (ats : Array TypeId) (ty : TypeId) (a b c : Value) : Builtin.min_ ats ty #[a, b, c] = (Builtin.min2 a b >>= fun s => Builtin.min2 s c >>= fun s => pure s) := by simp only [Builtin.min_, List.foldlM_cons, List.foldlM_nil]
theorem max_four (ats : Array TypeId) (ty : TypeId) (a b c d : Value) : Builtin.max_ ats ty #[a, b, c, d] = (Builtin.max2 a b >>= fun s => Builtin.max2 s c >>= fun s => Builtin.max2 s d >>= fun s => pure s) := by simp only [Builtin.max_, List.foldlM_cons, List.foldlM_nil]
theorem min_four (ats : Array TypeId) (ty : TypeId) (a b c d : Value) : Builtin.min_ ats ty #[a, b, c, d] = (Builtin.min2 a b >>= fun s => Builtin.min2 s c >>= fun s => Builtin.min2 s d >>= fun s => pure s) := by simp only [Builtin.min_, List.foldlM_cons, List.foldlM_nil]
end Go.Proofs.YtcbhnhoicecnnaaDoorW.PrintMore
namespace Go.Proofs.YtcbhnhoicecnnaaDoorW.PrintWords
open Go.RowKit
section
variable {P : Program} {ops : Array Oper} {rest : List Oper} {o : Oper} {a : Act} {Q : Exit → Act → World → Prop} {W : World}
theorem gate_callee {f : FuncId} {as_ : Array Operand} {ts : Array TypeId} (_ho : o.op = .call { callee := .value (.func f), args := as_, argTypes := ts }) (h : wpList P ops Q (o :: rest) a W) : wpList P ops Q (o :: rest) a W := h
end
def mx (a b : Int) : Int := if a < b then b else a
def mn (a b : Int) : Int := if b < a then b else a
namespace Kd
section
variable {α : Type} {d : Kd α} {e base : Nat} {ok : Nat → Prop} {W w1 : World} {v : Value} {xs : List α}
end
section
variable {α : Type} {d : Kd α} {e base g n cap : Nat} {ok oki okp : Nat → Prop} {W : World} {xs : List α} {i : Int} {c : List Value}
end
section
variable {α : Type} {d : Kd α} {e base b b' g N : Nat} {ok ok1 : Nat → Prop} {W W2 w1 : World} {u v : Value} {xs ys : List α} {S : Nat → Prop}
end
end Kd
end Go.Proofs.YtcbhnhoicecnnaaDoorW.PrintWords
namespace Go.Proofs.YtcbhnhoicecnnaaDoorW.PrintWords
open Go.RowKit
namespace Kd
def V {α : Type} (d : Kd α) (_e : Nat) (W : World) (_base : Nat) (ok : Nat → Prop) (v : Value) (xs : List α) : Prop := ∃ A c, v = .slice A xs.length c ∧ xs.length ≤ c ∧ F d W ok A xs.length xs
section
variable {α β : Type} {d : Kd α} {e base base' n m c g N' lo hi : Nat} {ok ok' S : Nat → Prop} {w W w1 : World} {A : Option Addr} {ad : Addr} {u v v1 : Value} {xs : List α}
end
end Kd
end Go.Proofs.YtcbhnhoicecnnaaDoorW.PrintWords
namespace Go.Proofs.YtcbhnhoicecnnaaDoor.Hand
set_option linter.unusedVariables false
set_option linter.unusedSimpArgs false
open Go.RowKit Go.Proofs.YtcbhnhoicecnnaaDoorW.PrintWords Go.Proofs.YtcbhnhoicecnnaaDoorW.PrintLast Go.Proofs.YtcbhnhoicecnnaaDoorW.PrintMore
def outB (lo hi n : Int) : Bool := decide (n < lo) || decide (hi < n)
theorem lit_any (lo hi n : Int) (B1 B2 : Nat) (w : World) (h1 : w.cell? ⟨B1, 0, none⟩ = some (.int .i64 lo)) (h2 : w.cell? ⟨B2, 0, none⟩ = some (.int .i64 hi)) :
    Calls Tryd.prog 72 #[.int .i64 n, .pointer (some ⟨B1, 0, none⟩), .pointer (some ⟨B2, 0, none⟩)] w fun e w' => e = .returned (.bool (outB lo hi n)) ∧ w = w' := by
  by_cases g : n < lo
  · have gd : decide (n < lo) = true := decide_eq_true g
    go_enter Tryd.func72, Tryd.ntmps72
    go_wp2
    go_ret
    exact ⟨by simp [outB, gd], rfl⟩
  · have gd : decide (n < lo) = false := decide_eq_false g
    go_enter Tryd.func72, Tryd.ntmps72
    go_wp2
    go_ret
    exact ⟨by simp [outB, gd], rfl⟩
theorem any_take_succ (p : Int → Bool) (l : List Int) (k : Nat) (h : k < l.length) : (l.take (k + 1)).any p = ((l.take k).any p || p l[k]) := by
  rw [List.take_succ_eq_append_getElem h, List.any_append, List.any_cons, List.any_nil, Bool.or_false]
theorem any_hit (p : Int → Bool) (l : List Int) (k : Nat) (h : k < l.length) (hp : p l[k] = true) : l.any p = true :=
  List.any_eq_true.2 ⟨l[k], List.getElem_mem h, hp⟩
set_option maxHeartbeats 1000000 in
theorem index_any (lo hi : Int) (B1 B2 : Nat) (A : Option Addr) (c : Nat) (l : List Int) (w : World) (hr : Kd.C (Kd.int .i64) w A l.length l) (hc : l.length ≤ c)
    (h1 : w.cell? ⟨B1, 0, none⟩ = some (.int .i64 lo)) (h2 : w.cell? ⟨B2, 0, none⟩ = some (.int .i64 hi)) :
    Calls Tryd.prog 83 #[.slice A l.length c, .func (.func 72) #[] #[.pointer (some ⟨B1, 0, none⟩), .pointer (some ⟨B2, 0, none⟩)]] w
      fun e w' => (∃ r : Int, e = .returned (.int .i64 r) ∧ decide (0 ≤ r) = l.any (outB lo hi)) ∧ w = w' := by
  have hm : l.length ≤ 9223372036854775807 := hr.2.1
  have HR := Lib.hid hr
  clear hr
  go_enter Tryd.func83, Tryd.ntmps83
  go_wp2
  go_loop [8] (fun i => ∃ k : Nat, k ≤ l.length ∧ i = .int .i64 k ∧ Hid ((l.take k).any (outB lo hi) = false)) (fun i => l.length - (intOf i).toNat)
  case atStart => exact ⟨0, Nat.zero_le _, rfl, Lib.hid (by simp)⟩
  case round =>
    obtain ⟨k, hk, rfl, HA⟩ := hrel
    by_cases hlt : k < l.length
    · obtain ⟨ad, e1, hx⟩ := Kd.at_int HR.out (k : Int) (by omega) (by omega)
      cases e1
      have hs := any_take_succ (outB lo hi) l k hlt
      have hh := any_hit (outB lo hi) l k hlt
      have hl : rd l (k : Int) = l[k] := by simp [rd, hlt]
      rw [hl, Int.toNat_natCast] at hx
      obtain ⟨x, hx'⟩ : ∃ x, x = l[k] := ⟨_, rfl⟩
      rw [← hx'] at hx hs hh
      have HS := Lib.hid hs
      have HH := Lib.hid hh
      clear hs hl hh hx'
      cases hb : outB lo hi x
      · have HB := Lib.hid hb
        go_wp2_with (go_at_call 72; refine (lit_any lo hi x B1 B2 _ h1 h2).mono ?_; rintro e w' ⟨rfl, rfl⟩)
        go_round
        case rel => exact ⟨k + 1, by omega, by go_num, Lib.hid (by rw [HS.out, HA.out, HB.out]; rfl)⟩
        case measure => simp [intOf]; omega
      · have HB := Lib.hid hb
        go_wp2_with (go_at_call 72; refine (lit_any lo hi x B1 B2 _ h1 h2).mono ?_; rintro e w' ⟨rfl, rfl⟩)
        go_ret
        exact ⟨⟨k, rfl, by rw [HH.out HB.out]; simp⟩, rfl⟩
    · go_wp2
      go_ret
      refine ⟨⟨-1, rfl, ?_⟩, rfl⟩
      have := HA.out
      rw [List.take_of_length_le (by omega)] at this
      rw [this]; simp
theorem contains_any (lo hi : Int) (B1 B2 : Nat) (A : Option Addr) (c : Nat) (l : List Int) (w : World) (hr : Kd.C (Kd.int .i64) w A l.length l) (hc : l.length ≤ c)
    (h1 : w.cell? ⟨B1, 0, none⟩ = some (.int .i64 lo)) (h2 : w.cell? ⟨B2, 0, none⟩ = some (.int .i64 hi)) :
    Calls Tryd.prog 71 #[.slice A l.length c, .func (.func 72) #[] #[.pointer (some ⟨B1, 0, none⟩), .pointer (some ⟨B2, 0, none⟩)]] w
      fun e w' => e = .returned (.bool (l.any (outB lo hi))) ∧ w = w' := by
  have HI := index_any lo hi B1 B2 A c l w hr hc h1 h2
  have HI := Lib.hid HI
  clear hr
  go_enter Tryd.func71, Tryd.ntmps71
  go_wp2_with (go_at_call 83; refine (HI.out).mono ?_; rintro e w' ⟨⟨r, rfl, hd⟩, rfl⟩; have HD := Lib.hid hd; clear hd)
  go_ret
  exact ⟨congrArg (fun b => Ending.returned (Value.bool b)) HD.out, rfl⟩
def tally_within.f (a0 a1 : Int) (l2 : List Int) : Option Bool := some (!l2.any (outB a0 a1))
set_option maxHeartbeats 1000000 in
theorem tally_within.calls (a0 a1 : Int) (A2 : Option Addr) (c2 : Nat) (l2 : List Int) (r : Bool) (w : World) (hr2 : Kd.C (Kd.int .i64) w A2 l2.length l2) (hc2 : l2.length ≤ c2) (h : tally_within.f a0 a1 l2 = some r) :
    Calls Tryd.prog 51 #[.int .i64 a0, .int .i64 a1, .slice A2 l2.length c2] w fun e w' => e = .returned (.bool r) ∧ Below w.heap.size w w' := by
  obtain rfl := Option.some.inj h
  have hb : Below w.heap.size w ((w.alloc (.cells #[.int .i64 a0] 2)).alloc (.cells #[.int .i64 a1] 2)) := ((Below.refl _ _).alloc (Nat.le_refl _) _).alloc (by simp) _
  have HI := contains_any a0 a1 w.heap.size (w.heap.size + 1) A2 c2 l2 ((w.alloc (.cells #[.int .i64 a0] 2)).alloc (.cells #[.int .i64 a1] 2)) (Kd.C_below hr2 hb) hc2 (by simp) (by simp)
  have HI := Lib.hid HI
  have HB := Lib.hid hb
  clear hr2 hb
  go_enter Tryd.func51, Tryd.ntmps51
  go_wp2_with (go_at_call 71; refine (HI.out).mono ?_; rintro e w' ⟨rfl, rfl⟩)
  go_ret
  exact ⟨rfl, HB.out⟩
end Go.Proofs.YtcbhnhoicecnnaaDoor.Hand
namespace Go.Proofs.YtcbhnhoicecnnaaDoor.Hand
set_option linter.unusedVariables false
set_option linter.unusedSimpArgs false
open Go.RowKit Go.Maps Go.Proofs.YtcbhnhoicecnnaaDoorW.PrintWords Go.Proofs.YtcbhnhoicecnnaaDoorW.PrintLast Go.Proofs.YtcbhnhoicecnnaaDoorW.PrintMore
theorem reads1 (w : World) (x : Int) : Kd.C (Kd.int .i64) (w.alloc (.cells #[.int .i64 x] 2)) (some ⟨w.heap.size, 0, none⟩) [x].length [x] :=
  Kd.C_of_reads (d := (0 : Int)) (h1 := fun _ => rfl) ⟨rfl, by simp, fun _ => ⟨_, rfl, fun j hj => by
    obtain rfl : j = 0 := by simpa using hj
    rw [add_plain]; simp⟩⟩
theorem reads2 (w : World) (x y : Int) : Kd.C (Kd.int .i64) (w.alloc (.cells #[.int .i64 x, .int .i64 y] 2)) (some ⟨w.heap.size, 0, none⟩) [x, y].length [x, y] :=
  Kd.C_of_reads (d := (0 : Int)) (h1 := fun _ => rfl) ⟨rfl, by simp, fun _ => ⟨_, rfl, fun j hj => by
    have : j = 0 ∨ j = 1 := by simp at hj; omega
    rw [add_plain]
    rcases this with rfl | rfl <;> simp⟩⟩
theorem out_in {lo hi n : Int} (h : outB lo hi n = false) : lo ≤ n ∧ n ≤ hi := by
  simp only [outB, Bool.or_eq_false_iff, decide_eq_false_iff_not] at h; omega
theorem out_iff (lo hi n : Int) : outB lo hi n = !decide (lo ≤ n ∧ n ≤ hi) := by
  simp only [outB]
  by_cases h1 : n < lo <;> by_cases h2 : hi < n <;> simp [h1, h2] <;> omega
theorem within1 (lo hi x : Int) (w : World) : Calls Tryd.prog 51 #[.int .i64 lo, .int .i64 hi, .slice (some ⟨w.heap.size, 0, none⟩) 1 1] (w.alloc (.cells #[.int .i64 x] 2))
    fun e w' => e = .returned (.bool (!outB lo hi x)) ∧ Below w.heap.size w w' := by
  refine (tally_within.calls lo hi _ 1 [x] _ _ (reads1 w x) (Nat.le_refl _) rfl).mono ?_
  rintro e w' ⟨rfl, hb⟩
  exact ⟨by simp, ((Below.refl _ _).alloc (Nat.le_refl _) _).trans (hb.mono (by simp))⟩
theorem within2 (lo hi x y : Int) (w : World) : Calls Tryd.prog 51 #[.int .i64 lo, .int .i64 hi, .slice (some ⟨w.heap.size, 0, none⟩) 2 2] (w.alloc (.cells #[.int .i64 x, .int .i64 y] 2))
    fun e w' => e = .returned (.bool (!(outB lo hi x || outB lo hi y))) ∧ Below w.heap.size w w' := by
  refine (tally_within.calls lo hi _ 2 [x, y] _ _ (reads2 w x y) (Nat.le_refl _) rfl).mono ?_
  rintro e w' ⟨rfl, hb⟩
  exact ⟨by simp, ((Below.refl _ _).alloc (Nat.le_refl _) _).trans (hb.mono (by simp))⟩
theorem run_cut3 {P : Program} (w : World) (t e : TypeId) (ht : P.underlying t = some (.slice e)) {i : TypeInfo} (hi : P.info? e = some i) (ao : Option Addr) (n cap : Nat) (h : n ≤ cap) :
    (Instr.slice t (.slice ao n cap) none (some (.int .i64 (n : Int))) (some (.int .i64 (n : Int)))).run P w = .ok (.slice ao n n) w := by
  have hel : P.elem t = e := by simp [Program.elem, ht]
  have hu : P.underlying t = some (.slice (P.elem t)) := by rw [hel]; exact ht
  rw [run_slice_hm w t ao n cap hu .i64 .i64 n n (by omega) (by omega) (by omega), hel]
  have : ∀ a : Addr, a.add 0 = a := fun a => rfl
  simp [sizeOf, typeInfo, hi, sliced, Result.andThen, this]
theorem own_out {w : World} {base n : Nat} {e : TypeId} {k : IntKind} {v : Value} {xs : List Int} (h : w.ownsRow base e 1 v n (nums k xs)) :
    ∃ A c, v = .slice A xs.length c ∧ xs.length ≤ c ∧ (A = none → xs.length = 0 ∧ c = 0) ∧ ReadsInt w k A xs.length xs := by
  have hl : xs.length = n := by have := h.1; simp [nums] at this; exact this
  obtain ⟨A, c, rfl, hr⟩ := own_reads h
  rw [hl]
  refine ⟨A, c, rfl, ?_, ?_, hr⟩
  · rcases h.2 with ⟨hv, h0⟩ | ⟨g, cap, cur, hv, _, _, hc, _⟩
    · omega
    · cases hv; exact hc
  · rintro rfl
    rcases h.2 with ⟨hv, h0⟩ | ⟨g, cap, cur, hv, _⟩
    · cases hv; exact ⟨rfl, rfl⟩
    · cases hv
theorem reads_cells {w : World} {k : IntKind} {ao : Option Addr} {xs : List Int} (h : ReadsInt w k ao xs.length xs) (b : Addr) (hb : ao = some b) : ∀ j u, (nums k xs)[j]? = some u → w.cell? (b.add j) = some u := by
  intro j u hu
  have hj : j < xs.length := by
    have := (List.getElem?_eq_some_iff.1 hu).1
    simpa [nums] using this
  obtain ⟨ad, e, hc⟩ := h.2.2 (by omega)
  rw [hb] at e
  cases e
  rw [hc j hj]
  simpa [nums, hj, List.getD_eq_getElem?_getD] using hu
theorem below_of_grown {w w1 : World} (h : w.grownBy w1 none) : Below w.heap.size w w1 := (Below.refl _ _).grown h (Nat.le_refl _) (fun j e => by cases e)
theorem reads_some {w : World} {k : IntKind} {ao : Option Addr} {xs : List Int} (h : ReadsInt w k ao xs.length xs) (hp : 0 < xs.length) : ∃ ad, ao = some ad ∧ ∀ j u, (nums k xs)[j]? = some u → w.cell? (ad.add j) = some u := by
  obtain ⟨ad, e, _⟩ := h.2.2 hp
  exact ⟨ad, e, reads_cells h ad e⟩
theorem nums_one (k : IntKind) (xs : List Int) : ∀ v ∈ nums k xs, v.oneCell' = true := by simp [nums, Value.oneCell']
theorem infoInt : (Tryd.prog.info? 3).map (fun i => (i.zero, i.size, i.bytes)) = some (some (.int .i64 0), 1, 8) := by kernel_rfl
end Go.Proofs.YtcbhnhoicecnnaaDoor.Hand
namespace Go.Proofs.YtcbhnhoicecnnaaDoor.Hand
set_option linter.unusedVariables false
set_option linter.unusedSimpArgs false
open Go.RowKit Go.Maps
open Go.ChangeMaps (setBlock heap_setBlock_same heap_setBlock_other)
theorem node_law : WideMaps.KeyLaw Tryd.prog 92 := deep_law_laid laidOut (m := 3) (by omega) (of_decide_eq_true (by kernel_rfl)) (by kernel_rfl) (by kernel_rfl)
def nodeV (p : Int × Int) : Value := .agg #[.int .i64 p.1, .int .i64 p.2]
def okN (p : Int × Int) : Prop := (0 ≤ p.1 ∧ p.1 ≤ 3) ∧ 0 ≤ p.2 ∧ p.2 ≤ 1000
theorem okN_key {p : Int × Int} (h : okN p) : keyOf Tryd.prog 92 (nodeV p) = some (pairKey p.1 p.2) :=
  pair_key (WalkArith.wf_i64 (by unfold okN at h; omega)) (WalkArith.wf_i64 (by unfold okN at h; omega))
theorem nodeV_inj {p q : Int × Int} (h : nodeV p = nodeV q) : p = q := by
  unfold nodeV at h
  have := Value.agg.inj h
  obtain ⟨a, b⟩ := p
  obtain ⟨c, d⟩ := q
  simp at this
  rw [this.1, this.2]
def updM (F : Int × Int → Option Value) (k : Int × Int) (v : Option Value) : Int × Int → Option Value := fun x => if x = k then v else F x
structure MapAt (W : World) (M : Nat) (F : Int × Int → Option Value) : Prop where
  ex : ∃ (es : Array MapEntry) (clock : Nat), W.heap[M]? = some (.map es clock) ∧ (∀ e ∈ es.toList, ∃ k, okN k ∧ e.key = nodeV k) ∧ MapKept.Stamped es clock ∧
    ∀ k, okN k → (∃ e ∈ es.toList, e.key = nodeV k ∧ F k = some e.val) ∨ ((∀ e ∈ es.toList, e.key ≠ nodeV k) ∧ F k = none)
theorem MapAt.lt {W : World} {M : Nat} {F : Int × Int → Option Value} (h : MapAt W M F) : M < W.heap.size := by
  obtain ⟨es, clock, hb, -⟩ := h.ex
  exact heap_lt hb
theorem MapAt.of_heap {W W' : World} {M : Nat} {F : Int × Int → Option Value} (h : MapAt W M F) (he : W'.heap[M]? = W.heap[M]?) : MapAt W' M F := by
  obtain ⟨es, clock, hb, r⟩ := h.ex
  exact ⟨es, clock, he.trans hb, r⟩
theorem MapAt.below {W W' : World} {M n : Nat} {F : Int × Int → Option Value} (h : MapAt W M F) (hb : Below n W W') (hn : M < n) : MapAt W' M F := h.of_heap (hb.block M hn)
theorem MapAt.ext {W : World} {M : Nat} {F G : Int × Int → Option Value} (h : MapAt W M F) (he : ∀ k, okN k → F k = G k) : MapAt W M G := by
  obtain ⟨es, clock, hb, hk, hs, hF⟩ := h.ex
  exact ⟨es, clock, hb, hk, hs, fun k ok => by rw [← he k ok]; exact hF k ok⟩
theorem keyed {es : Array MapEntry} (hk : ∀ e ∈ es.toList, ∃ k, okN k ∧ e.key = nodeV k) : ∀ e ∈ es.toList, ∃ l, keyOf Tryd.prog 92 e.key = some l := fun e he => by
  obtain ⟨k, ok, e1⟩ := hk e he
  exact ⟨_, by rw [e1]; exact okN_key ok⟩
theorem one_key {es : Array MapEntry} {clock : Nat} (hs : MapKept.Stamped es clock) {x y : MapEntry} (hx : x ∈ es.toList) (hy : y ∈ es.toList) (h : x.key = y.key) : x = y := by
  obtain ⟨-, -, hp⟩ := (MapKept.stamped_iff es clock).1 hs
  obtain ⟨i, hi, rfl⟩ := List.getElem_of_mem hx
  obtain ⟨j, hj, rfl⟩ := List.getElem_of_mem hy
  rw [List.pairwise_iff_getElem] at hp
  rcases Nat.lt_trichotomy i j with g | g | g
  · exact absurd h (hp i j hi hj g)
  · subst g; rfl
  · exact absurd h.symm (hp j i hj hi g)
section
variable {W : World} {M : Nat} {F : Int × Int → Option Value} {mt et : TypeId} {k : Int × Int}
theorem MapAt.look (h : MapAt W M F) (hm : Tryd.prog.underlying mt = some (.map 92 et)) {z : Value} (hz : (zeroValue et).run Tryd.prog W = .ok z W) (ok : okN k) :
    (Instr.lookup mt (.map (some M)) (nodeV k) false).run Tryd.prog W = .ok ((F k).getD z) W ∧ (Instr.lookup mt (.map (some M)) (nodeV k) true).run Tryd.prog W = .ok (.tuple #[(F k).getD z, .bool (F k).isSome]) W := by
  obtain ⟨es, clock, hb, hk, hs, hF⟩ := h.ex
  have hkey := okN_key ok
  rcases node_law.find W hkey es.toList (keyed hk) with ⟨g1, g2⟩ | ⟨j, e0, g1, g2, g3⟩
  · have e : F k = none := by
      rcases hF k ok with ⟨x, hx, hx1, -⟩ | ⟨-, h⟩
      · exact absurd hx1 (g2 x hx)
      · exact h
    rw [e]
    constructor <;> simp [Instr.lookup, run_underlying hm, MapKept.run_getObj_map hb, node_law.check W _ hkey, g1, hz, Result.andThen]
  · have e : F k = some e0.val := by
      rcases hF k ok with ⟨x, hx, hx1, hx2⟩ | ⟨h, -⟩
      · rw [hx2, one_key hs hx (List.mem_of_getElem? g2) (hx1.trans g3.symm)]
      · exact absurd g3 (h e0 (List.mem_of_getElem? g2))
    rw [e]
    constructor <;> simp [Instr.lookup, run_underlying hm, MapKept.run_getObj_map hb, node_law.check W _ hkey, g1, Result.andThen]
theorem put_push {es : Array MapEntry} {clock : Nat} (hk : ∀ e ∈ es.toList, ∃ k, okN k ∧ e.key = nodeV k) (hs : MapKept.Stamped es clock)
    (hF : ∀ k, okN k → (∃ e ∈ es.toList, e.key = nodeV k ∧ F k = some e.val) ∨ ((∀ e ∈ es.toList, e.key ≠ nodeV k) ∧ F k = none)) (ok : okN k) (hn : ∀ x ∈ es.toList, x.key ≠ nodeV k) (v : Value) :
    (∀ e ∈ (es.push ⟨nodeV k, v, clock⟩).toList, ∃ k, okN k ∧ e.key = nodeV k) ∧ MapKept.Stamped (es.push ⟨nodeV k, v, clock⟩) (clock + 1) ∧
      ∀ q, okN q → (∃ e ∈ (es.push ⟨nodeV k, v, clock⟩).toList, e.key = nodeV q ∧ updM F k (some v) q = some e.val) ∨ ((∀ e ∈ (es.push ⟨nodeV k, v, clock⟩).toList, e.key ≠ nodeV q) ∧ updM F k (some v) q = none) := by
  refine ⟨fun e he => ?_, MapKept.stamped_push hs hn, fun q oq => ?_⟩
  · rw [Array.toList_push, List.mem_append, List.mem_singleton] at he
    rcases he with he | rfl
    · exact hk e he
    · exact ⟨k, ok, rfl⟩
  · rw [Array.toList_push]
    by_cases e : q = k
    · subst e
      exact .inl ⟨⟨nodeV q, v, clock⟩, by simp, rfl, by simp [updM]⟩
    · have e2 : updM F k (some v) q = F q := if_neg e
      rw [e2]
      rcases hF q oq with ⟨x, hx, h1, h2⟩ | ⟨h1, h2⟩
      · exact .inl ⟨x, by simp [hx], h1, h2⟩
      · refine .inr ⟨fun x hx => ?_, h2⟩
        rw [List.mem_append, List.mem_singleton] at hx
        rcases hx with hx | rfl
        · exact h1 x hx
        · exact fun h => e (nodeV_inj h).symm
theorem put_same {es : Array MapEntry} {clock : Nat} (hk : ∀ e ∈ es.toList, ∃ k, okN k ∧ e.key = nodeV k) (hs : MapKept.Stamped es clock)
    (hF : ∀ k, okN k → (∃ e ∈ es.toList, e.key = nodeV k ∧ F k = some e.val) ∨ ((∀ e ∈ es.toList, e.key ≠ nodeV k) ∧ F k = none)) (ok : okN k) {j : Nat} {e0 : MapEntry} (hj : es[j]? = some e0) (h0 : e0.key = nodeV k) (v : Value) :
    (∀ e ∈ (es.modify j fun e => { e with key := nodeV k, val := v }).toList, ∃ k, okN k ∧ e.key = nodeV k) ∧ MapKept.Stamped (es.modify j fun e => { e with key := nodeV k, val := v }) clock ∧
      ∀ q, okN q → (∃ e ∈ (es.modify j fun e => { e with key := nodeV k, val := v }).toList, e.key = nodeV q ∧ updM F k (some v) q = some e.val) ∨ ((∀ e ∈ (es.modify j fun e => { e with key := nodeV k, val := v }).toList, e.key ≠ nodeV q) ∧ updM F k (some v) q = none) := by
  have hjl : es.toList[j]? = some e0 := by simpa using hj
  have hm : (es.modify j fun e => { e with key := nodeV k, val := v }).toList = es.toList.set j ⟨nodeV k, v, e0.born⟩ := by
    rw [Array.toList_modify, ChangeMaps.modify_eq_set _ _ _ _ hjl]
  have hlt : j < es.toList.length := (List.getElem?_eq_some_iff.1 hjl).1
  have mem1 : ∀ e, e ∈ es.toList.set j ⟨nodeV k, v, e0.born⟩ → e = ⟨nodeV k, v, e0.born⟩ ∨ (e ∈ es.toList ∧ e.key ≠ nodeV k) := fun e he => by
    obtain ⟨i, hi, rfl⟩ := List.getElem_of_mem he
    rw [List.length_set] at hi
    by_cases g : j = i
    · subst g; left; simp
    · right
      rw [List.getElem_set_ne g]
      refine ⟨List.getElem_mem hi, fun h => ?_⟩
      obtain ⟨-, -, hp⟩ := (MapKept.stamped_iff es clock).1 hs
      rw [List.pairwise_iff_getElem] at hp
      have e1 : es.toList[j] = e0 := by rw [List.getElem?_eq_getElem hlt] at hjl; exact Option.some.inj hjl
      rcases Nat.lt_or_gt_of_ne g with h1 | h1
      · exact hp j i hlt hi h1 (by rw [e1, h0, h])
      · exact hp i j hi hlt h1 (by rw [e1, h0, h])
  have mem2 : (⟨nodeV k, v, e0.born⟩ : MapEntry) ∈ es.toList.set j ⟨nodeV k, v, e0.born⟩ := List.mem_of_getElem? (i := j) (by rw [List.getElem?_set_self hlt])
  have mem3 : ∀ e ∈ es.toList, e.key ≠ nodeV k → e ∈ es.toList.set j ⟨nodeV k, v, e0.born⟩ := fun e he hne => by
    obtain ⟨i, hi, rfl⟩ := List.getElem_of_mem he
    have g : j ≠ i := fun g => by
      subst g
      have e1 : es.toList[j] = e0 := by rw [List.getElem?_eq_getElem hlt] at hjl; exact Option.some.inj hjl
      exact hne (by rw [e1, h0])
    exact List.mem_of_getElem? (i := i) (by rw [List.getElem?_set_ne g, List.getElem?_eq_getElem hi])
  refine ⟨fun e he => ?_, MapKept.stamped_modify hs j _ (fun _ _ => rfl) (fun e _ h => by rw [hj] at h; cases h; exact h0.symm), fun q oq => ?_⟩
  · rw [hm] at he
    rcases mem1 e he with rfl | ⟨he, -⟩
    · exact ⟨k, ok, rfl⟩
    · exact hk e he
  · rw [hm]
    by_cases e : q = k
    · subst e
      exact .inl ⟨_, mem2, rfl, by simp [updM]⟩
    · have e2 : updM F k (some v) q = F q := if_neg e
      rw [e2]
      rcases hF q oq with ⟨x, hx, h1, h2⟩ | ⟨h1, h2⟩
      · exact .inl ⟨x, mem3 x hx (by rw [h1]; exact fun h => e (nodeV_inj h)), h1, h2⟩
      · refine .inr ⟨fun x hx => ?_, h2⟩
        rcases mem1 x hx with rfl | ⟨hx, -⟩
        · exact fun h => e (nodeV_inj h).symm
        · exact h1 x hx
theorem grown_setBlock {W : World} {M : Nat} {es : Array MapEntry} {clock : Nat} {o' : Obj} (hb : W.heap[M]? = some (.map es clock)) : W.grownBy (setBlock W M o') (some M) := by
  refine ⟨rfl, rfl, rfl, by simp [setBlock], fun i _ hi => ?_⟩
  rw [heap_setBlock_other hb _ (fun e => hi (by rw [e]))]
theorem MapAt.put (h : MapAt W M F) (hm : Tryd.prog.underlying mt = some (.map 92 et)) (ok : okN k) (v : Value) :
    ∃ W', (Instr.mapUpdate mt (.map (some M)) (nodeV k) v).run Tryd.prog W = .ok () W' ∧ MapAt W' M (updM F k (some v)) ∧ W.grownBy W' (some M) := by
  obtain ⟨es, clock, hb, hk, hs, hF⟩ := h.ex
  have hkey := okN_key ok
  rcases node_law.find W hkey es.toList (keyed hk) with ⟨g1, g2⟩ | ⟨j, e0, g1, g2, g3⟩
  · refine ⟨setBlock W M (.map (es.push ⟨nodeV k, v, clock⟩) (clock + 1)), ?_, ⟨_, _, heap_setBlock_same hb _, put_push hk hs hF ok g2 v⟩, grown_setBlock hb⟩
    simp [Instr.mapUpdate, run_underlying hm, MapKept.run_getObj_map hb, node_law.check W false hkey, g1, MapKept.run_setObj_map _ hb, Result.andThen, setBlock]
  · have hj : es[j]? = some e0 := by simpa using g2
    refine ⟨setBlock W M (.map (es.modify j fun e => { e with key := nodeV k, val := v }) clock), ?_, ⟨_, _, heap_setBlock_same hb _, put_same hk hs hF ok hj g3 v⟩, grown_setBlock hb⟩
    simp [Instr.mapUpdate, run_underlying hm, MapKept.run_getObj_map hb, node_law.check W false hkey, g1, hj, g3, node_law.stays W hkey, MapKept.run_setObj_map _ hb, Result.andThen, setBlock]
theorem MapAt.entry (h : MapAt W M F) (hm : Tryd.prog.underlying mt = some (.map 92 et)) {z : Value} (hz : (zeroValue et).run Tryd.prog W = .ok z W) (ok : okN k) (v : Value) :
    ∃ v0 st W1 W2, (Instr.mapEntry mt (.map (some M)) (nodeV k)).run Tryd.prog W = .ok (.tuple #[v0, .int .i64 st]) W1 ∧ (Instr.entryStore mt (.map (some M)) (.int .i64 st) v).run Tryd.prog W1 = .ok () W2 ∧
      MapAt W2 M (updM F k (some v)) ∧ W.grownBy W1 (some M) ∧ W.grownBy W2 (some M) := by
  obtain ⟨es, clock, hb, hk, hs, hF⟩ := h.ex
  have hkey := okN_key ok
  obtain ⟨s1, s2, -⟩ := (MapKept.stamped_iff es clock).1 hs
  rcases node_law.find W hkey es.toList (keyed hk) with ⟨g1, g2⟩ | ⟨j, e0, g1, g2, g3⟩
  · have hb1 := heap_setBlock_same hb (.map (es.push ⟨nodeV k, z, clock⟩) (clock + 1))
    refine ⟨z, (clock : Nat), setBlock W M (.map (es.push ⟨nodeV k, z, clock⟩) (clock + 1)), setBlock (setBlock W M (.map (es.push ⟨nodeV k, z, clock⟩) (clock + 1))) M (.map (es.push ⟨nodeV k, v, clock⟩) (clock + 1)), ?_, ?_,
      ⟨_, _, heap_setBlock_same hb1 _, put_push hk hs hF ok g2 v⟩, grown_setBlock hb, (grown_setBlock hb).trans (grown_setBlock hb1)⟩
    · simp [Instr.mapEntry, run_underlying hm, MapKept.run_getObj_map hb, node_law.check W false hkey, g1, hz, MapKept.run_setObj_map _ hb, Result.andThen, setBlock, goInt]
    · have hidx : (es.push ⟨nodeV k, z, clock⟩).findIdx? (fun e => ((e.born : Nat) : Int) == ((clock : Nat) : Int)) = some es.size := by
        rw [WideElems.findIdx_arr]
        have := WideElems.findIdx_born (l := (es.push ⟨nodeV k, z, clock⟩).toList) (j := es.size) (e0 := ⟨nodeV k, z, clock⟩) (by
          simp only [Array.toList_push, List.map_append, List.map_cons, List.map_nil]
          refine List.nodup_append.2 ⟨s2, by simp, fun a ha c hc e1 => ?_⟩
          simp only [List.mem_singleton] at hc
          obtain ⟨x, hx, rfl⟩ := List.mem_map.1 ha
          have := s1 x hx
          omega) (by simp)
        exact this
      have hmod : (es.push ⟨nodeV k, z, clock⟩).modify es.size (fun e => { e with val := v }) = es.push ⟨nodeV k, v, clock⟩ := by
        apply Array.ext'
        rw [Array.toList_modify, Array.toList_push, Array.toList_push, ← Array.length_toList, WideElems.modify_last]
      generalize setBlock W M (.map (es.push ⟨nodeV k, z, clock⟩) (clock + 1)) = W1 at hb1
      simp [Instr.entryStore, MapKept.run_getObj_map hb1, asInt, asIntOf, goInt, hidx, hmod, MapKept.run_setObj_map _ hb1, Result.andThen, setBlock]
  · have hj : es[j]? = some e0 := by simpa using g2
    have hsame : es.modify j (fun e => { e with key := nodeV k }) = es := by
      apply Array.ext'
      rw [Array.toList_modify, ChangeMaps.modify_eq_set _ _ _ _ g2]
      have : ({ e0 with key := nodeV k } : MapEntry) = e0 := by rw [← g3]
      rw [this]
      exact WideElems.set_self _ _ _ g2
    have hb1 := heap_setBlock_same hb (.map es clock)
    refine ⟨e0.val, (e0.born : Nat), setBlock W M (.map es clock), setBlock (setBlock W M (.map es clock)) M (.map (es.modify j fun e => { e with key := nodeV k, val := v }) clock), ?_, ?_,
      ⟨_, _, heap_setBlock_same hb1 _, put_same hk hs hF ok hj g3 v⟩, grown_setBlock hb, (grown_setBlock hb).trans (grown_setBlock hb1)⟩
    · simp [Instr.mapEntry, run_underlying hm, MapKept.run_getObj_map hb, node_law.check W false hkey, g1, hj, g3, node_law.stays W hkey, hsame, MapKept.run_setObj_map _ hb, Result.andThen, setBlock, goInt]
    · have hidx : es.findIdx? (fun e => ((e.born : Nat) : Int) == ((e0.born : Nat) : Int)) = some j := by
        rw [WideElems.findIdx_arr]
        exact WideElems.findIdx_born s2 g2
      have hmod : es.modify j (fun e => { e with val := v }) = es.modify j (fun e' => { e' with key := nodeV k, val := v }) := by
        apply Array.ext'
        rw [Array.toList_modify, Array.toList_modify, ChangeMaps.modify_eq_set _ _ _ _ g2, ChangeMaps.modify_eq_set _ _ _ _ g2, ← g3]
      generalize setBlock W M (.map es clock) = W1 at hb1
      simp [Instr.entryStore, MapKept.run_getObj_map hb1, asInt, asIntOf, goInt, hidx, hmod, MapKept.run_setObj_map _ hb1, Result.andThen, setBlock]
end
theorem map_new (W : World) : MapAt (W.alloc (.map #[] 0)) W.heap.size fun _ => none :=
  ⟨#[], 0, heap_alloc_last _ _, fun _ h => by simp at h, MapKept.stamped_empty 0, fun _ _ => .inr ⟨fun _ h => by simp at h, rfl⟩⟩
end Go.Proofs.YtcbhnhoicecnnaaDoor.Hand
namespace Go.Proofs.YtcbhnhoicecnnaaDoorW.PrintLast
open Go.Proofs.YtcbhnhoicecnnaaDoorW.PrintWords (Aside0)
def needsOf (md : Region.Mode) (o : Oper) : List Nat := (o.after.toList.filter (fun e => Region.binds md e)).map (fun e => e.on)
def clashOf (md : Region.Mode) (ops : Array Oper) (i : Nat) (oi : Oper) : List Nat := (List.range ops.size).filter fun j => !(j == i) && match ops[j]? with
  | some oj => !(oj.after.any (fun e => Region.binds md e && e.on == i) || oi.apart ops oj)
  | none => false
def rtab (md : Region.Mode) (ops : Array Oper) : Bool × List (List Nat × List Nat) := (Region.noSelect ops, (List.range ops.size).map fun i => match ops[i]? with
  | some o => (needsOf md o, clashOf md ops i o)
  | none => ([], []))
def readyAt (T : List (List Nat × List Nat)) (l : List Bool) (i : Nat) : Bool := !l.getD i true && match T[i]? with
  | some r => r.1.all (fun j => l.getD j false)
  | none => false
def readyT (T : List (List Nat × List Nat)) (l : List Bool) : List Nat := (List.range T.length).filter (readyAt T l)
def freeT (T : List (List Nat × List Nat)) (l : List Bool) (i : Nat) : Bool := match T[i]? with
  | some r => r.2.all (fun j => l.getD j true)
  | none => false
def closedT (T : List (List Nat × List Nat)) (l : List Bool) : Bool := (List.range T.length).all fun j => !l.getD j false || match T[j]? with
  | some r => r.1.all (fun k => l.getD k false)
  | none => true
def reachT (T : List (List Nat × List Nat)) (i : Nat) : Nat → Nat → Bool
  | 0, _ => false
  | fuel + 1, d => match T[d]? with
    | some r => r.1.any fun j => j == i || reachT T i fuel j
    | none => false
def lastT (T : List (List Nat × List Nat)) (l : List Bool) (ds : List Nat) (i : Nat) : Bool := ds.all fun d => l.getD d true || reachT T i T.length d
section
variable {md : Region.Mode} {ops : Array Oper} {T : Bool × List (List Nat × List Nat)} {l l' li lj lk : Array Bool} {ds : List Nat} {i j k : Nat}
theorem gd (l : Array Bool) (j : Nat) (b : Bool) : l.getD j b = l.toList.getD j b := by simp [Array.getD_eq_getD_getElem?, List.getD_eq_getElem?_getD]
theorem needs_all (o : Oper) (p : Nat → Bool) : o.after.all (fun e => !Region.binds md e || p e.on) = (needsOf md o).all p := by
  unfold needsOf
  rw [← Array.all_toList]
  induction o.after.toList with
  | nil => rfl
  | cons e r ih =>
    rw [List.all_cons, ih, List.filter_cons]
    cases h : Region.binds md e <;> simp
theorem needs_any (o : Oper) (p : Nat → Bool) : o.after.any (fun e => Region.binds md e && p e.on) = (needsOf md o).any p := by
  unfold needsOf
  rw [← Array.any_toList]
  induction o.after.toList with
  | nil => rfl
  | cons e r ih =>
    rw [List.any_cons, ih, List.filter_cons]
    cases h : Region.binds md e <;> simp
theorem rtab_length : (rtab md ops).2.length = ops.size := by simp [rtab]
theorem rtab_some {o : Oper} (h : ops[i]? = some o) : (rtab md ops).2[i]? = some (needsOf md o, clashOf md ops i o) := by
  have hi := (Array.getElem?_eq_some_iff.1 h).1
  unfold rtab
  rw [List.getElem?_map, List.getElem?_range hi, Option.map_some, h]
theorem rtab_none (h : ops[i]? = none) : (rtab md ops).2[i]? = none := by
  have hi : ops.size ≤ i := Array.getElem?_eq_none_iff.1 h
  exact List.getElem?_eq_none (by rw [rtab_length]; exact hi)
theorem readyAt_eq : readyAt (rtab md ops).2 l.toList i = (!l.getD i true && ((ops[i]?).map (·.after.all fun e => !Region.binds md e || l.getD e.on false)).getD false) := by
  unfold readyAt
  rw [gd]
  cases h : ops[i]? with
  | none => rw [rtab_none h]; rfl
  | some o =>
    rw [rtab_some h]
    simp only [Option.map_some, Option.getD_some]
    rw [← needs_all]
    simp only [gd]
theorem ready_eq : Region.ready md ops l = readyT (rtab md ops).2 l.toList := by
  unfold Region.ready readyT
  rw [rtab_length]
  refine List.filter_congr (fun i _ => ?_)
  rw [readyAt_eq]
theorem free_eq : Region.free md ops l i = freeT (rtab md ops).2 l.toList i := by
  unfold Region.free freeT
  cases h : ops[i]? with
  | none => rw [rtab_none h]
  | some oi =>
    rw [rtab_some h]
    simp only [clashOf]
    rw [List.all_filter]
    congr 1
    funext j
    rw [gd]
    cases hj : ops[j]? with
    | none => cases (j == i) <;> cases (l.toList.getD j true) <;> simp
    | some oj =>
      cases (j == i) <;> cases (l.toList.getD j true) <;> cases (oj.after.any (fun e => Region.binds md e && e.on == i) || oi.apart ops oj) <;> simp_all
theorem closed_eq : Region.closedB md ops l = closedT (rtab md ops).2 l.toList := by
  unfold Region.closedB closedT
  rw [rtab_length]
  congr 1
  funext j
  rw [gd]
  cases h : ops[j]? with
  | none => rw [rtab_none h]
  | some o =>
    rw [rtab_some h]
    simp only
    rw [← needs_all]
    simp only [gd]
theorem reach_eq : ∀ (fuel d : Nat), Region.reachB md ops i fuel d = reachT (rtab md ops).2 i fuel d
  | 0, _ => rfl
  | fuel + 1, d => by
    unfold Region.reachB reachT
    cases h : ops[d]? with
    | none => rw [rtab_none h]
    | some o =>
      rw [rtab_some h]
      simp only
      rw [← needs_any]
      congr 1
      funext e
      rw [reach_eq fuel]
theorem last_eq : Region.lastB md ops l ds i = lastT (rtab md ops).2 l.toList ds i := by
  unfold Region.lastB lastT
  rw [rtab_length]
  congr 1
  funext d
  rw [gd, reach_eq]
theorem readyAt_mem (h : readyAt T.2 l.toList i = true) (hT : rtab md ops = T) : (Region.ready md ops l).contains i = true := by
  subst hT
  rw [ready_eq]
  unfold readyT
  rw [List.contains_iff_mem, List.mem_filter, List.mem_range]
  refine ⟨?_, h⟩
  unfold readyAt at h
  rw [Bool.and_eq_true] at h
  cases hq : (rtab md ops).2[i]? with
  | none => rw [hq] at h; simp at h
  | some r => exact (List.getElem?_eq_some_iff.1 hq).1
theorem set_of (h : (l.toList.set i true == l'.toList) = true) : (l.setIfInBounds i true == l') = true := by
  rw [beq_iff_eq] at h ⊢
  apply Array.ext'
  rw [Array.toList_setIfInBounds]
  exact h
def anyT (T : Bool × List (List Nat × List Nat)) (l l' : List Bool) (i : Nat) : Bool := T.1 && freeT T.2 l i && readyAt T.2 l i && (l.set i true == l')
theorem any_of (hT : rtab md ops = T) (h : anyT T l.toList l'.toList i = true) : anyB md ops l l' i = true := by
  simp only [anyT, Bool.and_eq_true] at h
  obtain ⟨⟨⟨h1, h2⟩, h3⟩, h4⟩ := h
  have h5 := readyAt_mem h3 hT
  have h6 := set_of h4
  subst hT
  simp only [anyB, Bool.and_eq_true]
  exact ⟨⟨⟨h1, by rw [free_eq]; exact h2⟩, h5⟩, h6⟩
def takeT (T : Bool × List (List Nat × List Nat)) (ds : List Nat) (l l' : List Bool) (i : Nat) : Bool := T.1 && freeT T.2 l i && readyAt T.2 l i && closedT T.2 l && lastT T.2 l ds i && (l.set i true == l')
theorem take_of (hT : rtab md ops = T) (h : takeT T ds l.toList l'.toList i = true) : takeB md ops ds l l' i = true := by
  simp only [takeT, Bool.and_eq_true] at h
  obtain ⟨⟨⟨⟨⟨h1, h2⟩, h3⟩, h4⟩, h5⟩, h6⟩ := h
  have h7 := readyAt_mem h3 hT
  have h8 := set_of h6
  subst hT
  simp only [takeB, Bool.and_eq_true]
  exact ⟨⟨⟨⟨⟨h1, by rw [free_eq]; exact h2⟩, h7⟩, by rw [closed_eq]; exact h4⟩, by rw [last_eq]; exact h5⟩, h8⟩
theorem one_of (hT : rtab md ops = T) (h : (readyT T.2 l.toList == [i] && l.toList.set i true == l'.toList) = true) : readyB md ops l l' i = true := by
  simp only [Bool.and_eq_true] at h
  obtain ⟨h1, h2⟩ := h
  subst hT
  simp only [readyB, Bool.and_eq_true]
  exact ⟨by rw [ready_eq]; exact h1, set_of h2⟩
theorem two_of (hT : rtab md ops = T) (h : (readyT T.2 l.toList == [i, j] && l.toList.set i true == li.toList && l.toList.set j true == lj.toList) = true) : (Region.ready md ops l == [i, j] && l.setIfInBounds i true == li && l.setIfInBounds j true == lj) = true := by
  simp only [Bool.and_eq_true] at h ⊢
  obtain ⟨⟨h1, h2⟩, h3⟩ := h
  subst hT
  exact ⟨⟨by rw [ready_eq]; exact h1, set_of h2⟩, set_of h3⟩
theorem done_of (hT : rtab md ops = T) (h : (readyT T.2 l.toList == []) = true) : (Region.ready md ops l == []) = true := by
  subst hT
  rw [ready_eq]
  exact h
def upM (B : List Nat) (d : Nat) : List Nat → Nat
  | [] => 0
  | n :: r => (2 ^ n ||| (if n < d then B.getD n 0 else 0)) ||| upM B d r
def waitsOk (T : List (List Nat × List Nat)) (B : List Nat) : Bool := (List.range T.length).all fun d => match T[d]? with
  | some r => (B.getD d 0 ||| upM B d r.1) == upM B d r.1
  | none => false
theorem upM_bit {B : List Nat} {d i : Nat} : ∀ {ns : List Nat}, (upM B d ns).testBit i = true → ∃ n ∈ ns, n = i ∨ (n < d ∧ (B.getD n 0).testBit i = true)
  | [], h => by simp [upM] at h
  | n :: r, h => by
    unfold upM at h
    rw [Nat.testBit_or, Nat.testBit_or, Bool.or_eq_true, Bool.or_eq_true] at h
    rcases h with (h | h) | h
    · rw [Nat.testBit_two_pow] at h
      exact ⟨n, List.mem_cons_self, .inl (by simpa using h)⟩
    · by_cases hn : n < d
      · rw [if_pos hn] at h
        exact ⟨n, List.mem_cons_self, .inr ⟨hn, h⟩⟩
      · rw [if_neg hn] at h
        simp at h
    · obtain ⟨m, hm, h2⟩ := upM_bit h
      exact ⟨m, List.mem_cons_of_mem _ hm, h2⟩
theorem reach_bit {T : List (List Nat × List Nat)} {B : List Nat} (hB : waitsOk T B = true) : ∀ (fuel d : Nat), d < fuel → d < T.length → (B.getD d 0).testBit i = true → reachT T i fuel d = true
  | 0, d, h, _, _ => by omega
  | fuel + 1, d, h, hd, hb => by
    have h1 := List.all_eq_true.1 hB d (List.mem_range.2 hd)
    cases hr : T[d]? with
    | none => rw [hr] at h1; simp at h1
    | some r =>
      rw [hr] at h1
      simp only [beq_iff_eq] at h1
      have h2 : (upM B d r.1).testBit i = true := by rw [← h1, Nat.testBit_or, hb, Bool.true_or]
      obtain ⟨n, hn, h3⟩ := upM_bit h2
      unfold reachT
      rw [hr]
      simp only
      rw [List.any_eq_true]
      refine ⟨n, hn, ?_⟩
      rcases h3 with rfl | ⟨h4, h5⟩
      · simp
      · rw [reach_bit hB fuel n (by omega) (by omega) h5, Bool.or_true]
def lastW (T : List (List Nat × List Nat)) (B : List Nat) (l : List Bool) (ds : List Nat) (i : Nat) : Bool := ds.all fun d => l.getD d true || (decide (d < T.length) && (B.getD d 0).testBit i)
def takeW (T : Bool × List (List Nat × List Nat)) (B : List Nat) (ds : List Nat) (l l' : List Bool) (i : Nat) : Bool := T.1 && freeT T.2 l i && readyAt T.2 l i && closedT T.2 l && lastW T.2 B l ds i && (l.set i true == l')
theorem take_ofW {B : List Nat} (hT : rtab md ops = T) (hB : waitsOk T.2 B = true) (h : takeW T B ds l.toList l'.toList i = true) : takeB md ops ds l l' i = true := by
  refine take_of hT ?_
  simp only [takeW, takeT, Bool.and_eq_true] at h ⊢
  obtain ⟨⟨⟨⟨⟨h1, h2⟩, h3⟩, h4⟩, h5⟩, h6⟩ := h
  refine ⟨⟨⟨⟨⟨h1, h2⟩, h3⟩, h4⟩, ?_⟩, h6⟩
  unfold lastW at h5
  unfold lastT
  rw [List.all_eq_true] at h5 ⊢
  intro d hd
  have h7 := h5 d hd
  rw [Bool.or_eq_true, Bool.and_eq_true, decide_eq_true_eq] at h7
  rcases h7 with h7 | ⟨h8, h9⟩
  · rw [h7, Bool.true_or]
  · rw [reach_bit hB _ d h8 h8 h9, Bool.or_true]
theorem with_tabW {P : Program} {Q : Exit → Act → World → Prop} {S : World → Prop} {n : Nat} {a : Act} {w : World} {B : List Nat} (hT : rtab md ops = T) (hB : waitsOk T.2 B = true) (h : Aside0 (rtab md ops = T) → Aside0 (waitsOk T.2 B = true) → wpAnyLast P md ops Q S ds n l a w) : wpAnyLast P md ops Q S ds n l a w := h ⟨hT⟩ ⟨hB⟩
end
def opsIn : Code → Nat → Option (Array Oper)
  | .region id ops _, k => if id == k then some ops else none
  | .seq a b, k => match opsIn a k with
    | some o => some o
    | none => opsIn b k
  | .cond _ a b, k => match opsIn a k with
    | some o => some o
    | none => opsIn b k
  | .block _ c, k => opsIn c k
  | .loop c, k => opsIn c k
  | .scope c, k => opsIn c k
  | .rangeFunc _ _ a b, k => match opsIn a k with
    | some o => some o
    | none => opsIn b k
  | _, _ => none
def opsOf (f : Func) (k : Nat) : Array Oper := ((f.body.bind fun c => opsIn c k)).getD #[]
end Go.Proofs.YtcbhnhoicecnnaaDoorW.PrintLast
namespace Go.Proofs.YtcbhnhoicecnnaaDoorW.PrintWords
open Go.RowKit
section
variable {w w' u : World} {m B g : Nat} {o : Obj} {row : Option Nat} {S : Nat → Prop} {a : Addr} {v : Value}
theorem moved_at (hq : w.drewN m = w') (h : u.heap.size ≤ w.heap.size) : u.heap.size ≤ w'.heap.size := by subst hq; exact h
end
namespace Kd
section
variable {α : Type} {d : Kd α} {e base n m : Nat} {ok : Nat → Prop} {w w' : World} {v : Value} {A : Option Addr} {xs : List α}
end
end Kd
end Go.Proofs.YtcbhnhoicecnnaaDoorW.PrintWords
namespace Go.Proofs.YtcbhnhoicecnnaaDoorW.PrintWords
theorem Reps.one {α : Type} {R : α → List Value → Prop} {ps : List α} {cs : List Value} {p : α} {v : Value} (hp : R p [v]) (h : Reps R 1 ps cs) : Reps R 1 (p :: ps) (v :: cs) := by
  refine ⟨by simp [h.1], fun j q hq => ?_⟩
  cases j with
  | zero =>
    simp only [List.getElem?_cons_zero, Option.some.injEq] at hq
    subst hq
    simpa using hp
  | succ j =>
    simp only [List.getElem?_cons_succ] at hq
    have h1 := h.2 j q hq
    simpa [Nat.mul_one] using h1
theorem Reps.front {α : Type} {R : α → List Value → Prop} {size : Nat} {ps : List α} {cs c all : List Value} {p : α} (hp : R p c) (hc : c.length = size) (h : Reps R size ps cs) (ha : c ++ cs = all) : Reps R size (p :: ps) all := by
  subst ha
  refine ⟨by rw [List.length_append, hc, h.1, List.length_cons, Nat.succ_mul, Nat.add_comm], fun j q hq => ?_⟩
  cases j with
  | zero =>
    simp only [List.getElem?_cons_zero, Option.some.injEq] at hq
    subst hq
    rw [Nat.zero_mul, List.drop_zero, List.take_append_of_le_length (by omega), List.take_of_length_le (by omega)]
    exact hp
  | succ j =>
    simp only [List.getElem?_cons_succ] at hq
    have h1 := h.2 j q hq
    rw [Nat.succ_mul, List.drop_append, List.drop_of_length_le (by rw [hc]; exact Nat.le_add_left _ _), List.nil_append, hc, Nat.add_sub_cancel]
    exact h1
theorem Reps.c2 {α : Type} {R : α → List Value → Prop} {ps : List α} {cs : List Value} {p : α} {va vb : Value} (hp : R p [va, vb]) (h : Reps R 2 ps cs) : Reps R 2 (p :: ps) (va :: vb :: cs) := Reps.front hp rfl h rfl
theorem Reps.c3 {α : Type} {R : α → List Value → Prop} {ps : List α} {cs : List Value} {p : α} {va vb vc : Value} (hp : R p [va, vb, vc]) (h : Reps R 3 ps cs) : Reps R 3 (p :: ps) (va :: vb :: vc :: cs) := Reps.front hp rfl h rfl
theorem Reps.c4 {α : Type} {R : α → List Value → Prop} {ps : List α} {cs : List Value} {p : α} {va vb vc vd : Value} (hp : R p [va, vb, vc, vd]) (h : Reps R 4 ps cs) : Reps R 4 (p :: ps) (va :: vb :: vc :: vd :: cs) := Reps.front hp rfl h rfl
theorem Reps.c5 {α : Type} {R : α → List Value → Prop} {ps : List α} {cs : List Value} {p : α} {va vb vc vd ve : Value} (hp : R p [va, vb, vc, vd, ve]) (h : Reps R 5 ps cs) : Reps R 5 (p :: ps) (va :: vb :: vc :: vd :: ve :: cs) := Reps.front hp rfl h rfl
theorem Reps.c6 {α : Type} {R : α → List Value → Prop} {ps : List α} {cs : List Value} {p : α} {va vb vc vd ve vf : Value} (hp : R p [va, vb, vc, vd, ve, vf]) (h : Reps R 6 ps cs) : Reps R 6 (p :: ps) (va :: vb :: vc :: vd :: ve :: vf :: cs) := Reps.front hp rfl h rfl
theorem Reps.c7 {α : Type} {R : α → List Value → Prop} {ps : List α} {cs : List Value} {p : α} {va vb vc vd ve vf vg : Value} (hp : R p [va, vb, vc, vd, ve, vf, vg]) (h : Reps R 7 ps cs) : Reps R 7 (p :: ps) (va :: vb :: vc :: vd :: ve :: vf :: vg :: cs) := Reps.front hp rfl h rfl
theorem Reps.c8 {α : Type} {R : α → List Value → Prop} {ps : List α} {cs : List Value} {p : α} {va vb vc vd ve vf vg vh : Value} (hp : R p [va, vb, vc, vd, ve, vf, vg, vh]) (h : Reps R 8 ps cs) : Reps R 8 (p :: ps) (va :: vb :: vc :: vd :: ve :: vf :: vg :: vh :: cs) := Reps.front hp rfl h rfl
theorem Reps.c9 {α : Type} {R : α → List Value → Prop} {ps : List α} {cs : List Value} {p : α} {va vb vc vd ve vf vg vh vi : Value} (hp : R p [va, vb, vc, vd, ve, vf, vg, vh, vi]) (h : Reps R 9 ps cs) : Reps R 9 (p :: ps) (va :: vb :: vc :: vd :: ve :: vf :: vg :: vh :: vi :: cs) := Reps.front hp rfl h rfl
theorem Reps.c10 {α : Type} {R : α → List Value → Prop} {ps : List α} {cs : List Value} {p : α} {va vb vc vd ve vf vg vh vi vj : Value} (hp : R p [va, vb, vc, vd, ve, vf, vg, vh, vi, vj]) (h : Reps R 10 ps cs) : Reps R 10 (p :: ps) (va :: vb :: vc :: vd :: ve :: vf :: vg :: vh :: vi :: vj :: cs) := Reps.front hp rfl h rfl
end Go.Proofs.YtcbhnhoicecnnaaDoorW.PrintWords
namespace Go.Proofs.YtcbhnhoicecnnaaDoorW.PrintLast
def up (b : Nat → Bool) (i : Nat) : Nat → Bool := fun j => if j = i then true else b j
section
variable {P : Program} {ops : Array Oper} {Q : Exit → Act → World → Prop} {md : Region.Mode} {T : Bool × List (List Nat × List Nat)} {B : List Nat} {O : List Nat} {b : Nat → Bool} {i j n : Nat}
def Closed (T : List (List Nat × List Nat)) (O : List Nat) (b : Nat → Bool) : Prop := ∀ d r, T[d]? = some r → O.contains d = true → b d = true → ∀ n ∈ r.1, O.contains n = true → b n = true
end
end Go.Proofs.YtcbhnhoicecnnaaDoorW.PrintLast
namespace Go.Proofs.YtcbhnhoicecnnaaDoorW.PrintWords
open Go.RowKit
section
variable {P : Program} {ops : Array Oper} {rest : List Oper} {o : Oper} {a : Act} {Q : Exit → Act → World → Prop} {W : World}
theorem gate_guard (hw : Region.wanted o (yielded ops a.tmps) = true) (h : wpList P ops Q ({ o with guard := none } :: rest) a W) : wpList P ops Q (o :: rest) a W := by
  have h1 : Region.wanted { o with guard := none } (yielded ops a.tmps) = true := rfl
  unfold wpList at h ⊢
  rw [if_pos h1] at h
  rw [if_pos hw]
  exact h
end
end Go.Proofs.YtcbhnhoicecnnaaDoorW.PrintWords
namespace Go.Proofs.YtcbhnhoicecnnaaDoor.PrK
open Go.RowKit Go.Proofs.YtcbhnhoicecnnaaDoorW.PrintWords Go.Proofs.YtcbhnhoicecnnaaDoorW.PrintLast Go.Proofs.YtcbhnhoicecnnaaDoorW.PrintMore Go.Proofs.YtcbhnhoicecnnaaDoor.Hand
attribute [local go_sem] max2_int min2_int max_two min_two max_three min_three max_four min_four
set_option linter.unusedVariables false
set_option linter.unusedSimpArgs false
def errW : Option Int → Value
  | none => .nilIface
  | some c => .iface 0 (.int .i64 c)
theorem errW_none : errW none = .nilIface := rfl
theorem errW_some (c : Int) : errW (some c) = .iface 0 (.int .i64 c) := rfl
theorem info24 : (Tryd.prog.info? 24).map (fun i => (i.zero, i.size, i.bytes)) = some (some (.agg #[(.int .i64 0), (.int .i64 0)]), 2, 16) := by kernel_rfl
structure S24 where
  f0 : Int
  f1 : Int
def z24 : S24 := ⟨(0 : Int), (0 : Int)⟩
def k24 : Kd S24 := Kd.iso (Kd.pair (Kd.int .i64) (Kd.int .i64)) (fun x : S24 => (x.f0, x.f1))
theorem k24_open {w : World} {x : S24} {cs : List Value} (h : k24.K w x cs) : cs = [.int .i64 x.f0, .int .i64 x.f1] := by
  obtain ⟨_, _, rfl, rfl, rfl⟩ := h
  exact rfl
theorem k24_mk (w : World) (x : S24)  : k24.K w x [.int .i64 x.f0, .int .i64 x.f1] := ⟨[.int .i64 x.f0], [.int .i64 x.f1], rfl, rfl, rfl⟩
theorem k24_mkM (w : World) (base : Nat) (ok : Nat → Prop) (x : S24)  : k24.M w base ok x [.int .i64 x.f0, .int .i64 x.f1] := ⟨[.int .i64 x.f0], [.int .i64 x.f1], rfl, rfl, rfl⟩
def rd_T24 (xs : List S24) (i : Int) : S24 := xs.getD i.toNat z24
theorem at_T24 {w : World} {A : Option Addr} {n : Nat} {xs : List S24} (h : Kd.C k24 w A n xs) (i : Int) (h0 : 0 ≤ i) (h1 : i < n) : ∃ ad , A = some ad ∧ w.cell? (ad.add (i.toNat * 2)) = some (.int .i64 (rd_T24 xs i).f0) ∧ w.cell? ⟨(ad.add (i.toNat * 2)).block, (ad.add (i.toNat * 2)).off + 1, none⟩ = some (.int .i64 (rd_T24 xs i).f1) := by
  obtain ⟨ad, c, e, _, hK, hc0⟩ := Kd.C_get h z24 i h0 h1
  have hc : ∀ j u, c[j]? = some u → w.cell? (ad.add (i.toNat * 2 + j)) = some u := hc0
  obtain rfl := k24_open hK
  exact ⟨ad, e, hc 0 _ rfl, by rw [← add_field _ _ 1 (by omega)]; exact hc 1 _ rfl⟩
end Go.Proofs.YtcbhnhoicecnnaaDoor.PrK
namespace Go.Proofs.YtcbhnhoicecnnaaDoor.Hand
set_option linter.unusedVariables false
set_option linter.unusedSimpArgs false
section
variable {N L : Type} [DecidableEq N]
structure Bf (N L : Type) where
  far : N → Int
  bef : N → Option L
  at_ : N
  moved : Nat
variable (fr to_ : L → N) (wr : L → Int)
def upd {V : Type} (f : N → V) (a : N) (v : V) : N → V := fun x => if x = a then v else f x
omit [DecidableEq N] in
theorem upd_same [DecidableEq N] {V : Type} (f : N → V) (a : N) (v : V) : upd f a v a = v := if_pos rfl
theorem upd_other {V : Type} (f : N → V) {a x : N} (v : V) (h : x ≠ a) : upd f a v x = f x := if_neg h
def relax (s : Bf N L) (x : L) : Bf N L :=
  if s.far (fr x) + wr x < s.far (to_ x) then ⟨upd s.far (to_ x) (s.far (fr x) + wr x), upd s.bef (to_ x) (some x), to_ x, s.moved + 1⟩ else s
def roundB (ls : List L) (s : Bf N L) : Bf N L := ls.foldl (relax fr to_ wr) ⟨s.far, s.bef, s.at_, 0⟩
def searchB (ls : List L) : Nat → Bf N L → Bool × Bf N L
  | 0, s => (decide ((roundB fr to_ wr ls s).moved = 0), roundB fr to_ wr ls s)
  | k + 1, s => if (roundB fr to_ wr ls s).moved = 0 then (true, roundB fr to_ wr ls s) else searchB ls k (roundB fr to_ wr ls s)
theorem relax_moved (ls : List L) : ∀ s : Bf N L, s.moved ≤ (ls.foldl (relax fr to_ wr) s).moved := by
  induction ls with
  | nil => intro s; exact Nat.le_refl _
  | cons x ls ih =>
    intro s
    refine Nat.le_trans ?_ (ih _)
    unfold relax
    split
    · exact Nat.le_succ _
    · exact Nat.le_refl _
theorem still (ls : List L) : ∀ s : Bf N L, (ls.foldl (relax fr to_ wr) s).moved = s.moved → ls.foldl (relax fr to_ wr) s = s ∧ ∀ x ∈ ls, s.far (to_ x) ≤ s.far (fr x) + wr x := by
  induction ls with
  | nil => intro s _; exact ⟨rfl, fun x hx => by cases hx⟩
  | cons x ls ih =>
    intro s h
    rw [List.foldl_cons] at h ⊢
    by_cases g : s.far (fr x) + wr x < s.far (to_ x)
    · have h1 := relax_moved fr to_ wr ls (relax fr to_ wr s x)
      rw [relax, if_pos g] at h1 h
      simp only at h1
      omega
    · have e : relax fr to_ wr s x = s := if_neg g
      rw [e] at h ⊢
      obtain ⟨h1, h2⟩ := ih s h
      refine ⟨h1, fun y hy => ?_⟩
      rcases List.mem_cons.1 hy with rfl | hy
      · exact Int.not_lt.1 g
      · exact h2 y hy
theorem search_still (ls : List L) : ∀ (k : Nat) (s s' : Bf N L), searchB fr to_ wr ls k s = (true, s') → ∀ x ∈ ls, s'.far (to_ x) ≤ s'.far (fr x) + wr x
  | 0, s, s', h => by
    unfold searchB at h
    injection h with h1 h2
    subst h2
    have h1 := of_decide_eq_true h1
    obtain ⟨e, h3⟩ := still fr to_ wr ls _ h1
    rw [roundB, e]
    exact h3
  | k + 1, s, s', h => by
    unfold searchB at h
    split at h
    · rename_i h1
      injection h with _ h2
      subst h2
      obtain ⟨e, h3⟩ := still fr to_ wr ls _ h1
      rw [roundB, e]
      exact h3
    · exact search_still ls k _ s' h
structure BfInv (ls P Q : List L) (r c : Nat) (s : Bf N L) (T R : N → Nat) : Prop where
  i1 : ∀ v x, s.bef v = some x → x ∈ ls ∧ to_ x = v ∧ s.far (fr x) + wr x ≤ s.far v ∧ (T v < T (fr x) → s.far (fr x) + wr x < s.far v) ∧ R v ≤ R (fr x) + 1
  i2 : ∀ v, T v ≤ c ∧ R v ≤ r
  i3 : ∀ u v, T u = T v → T u ≠ 0 → u = v
  i4 : ∀ v, R v ≠ 0 → s.bef v ≠ none ∧ T v ≠ 0
  i4' : ∀ v, s.bef v ≠ none → R v ≠ 0
  i5 : ∀ x ∈ P, s.far (to_ x) ≤ s.far (fr x) + wr x ∨ r ≤ R (fr x)
  i6 : ∀ x ∈ Q, s.far (to_ x) ≤ s.far (fr x) + wr x ∨ r ≤ R (fr x) + 1
  i7 : s.moved ≠ 0 → R s.at_ = r
variable {fr to_ wr}
theorem inv_step {ls P Q : List L} {x : L} {r c : Nat} {s : Bf N L} {T R : N → Nat} (hns : ∀ x ∈ ls, fr x ≠ to_ x) (hr : 1 ≤ r) (hx : x ∈ ls) (h : BfInv fr to_ wr ls P (x :: Q) r c s T R) :
    ∃ c' T' R', BfInv fr to_ wr ls (P ++ [x]) Q r c' (relax fr to_ wr s x) T' R' := by
  by_cases g : s.far (fr x) + wr x < s.far (to_ x)
  · have e : relax fr to_ wr s x = ⟨upd s.far (to_ x) (s.far (fr x) + wr x), upd s.bef (to_ x) (some x), to_ x, s.moved + 1⟩ := if_pos g
    have hne := hns x hx
    have hRx : r ≤ R (fr x) + 1 := by
      rcases h.i6 x (by simp) with h | h
      · omega
      · exact h
    refine ⟨c + 1, upd T (to_ x) (c + 1), upd R (to_ x) r, ?_⟩
    rw [e]
    have hT : ∀ v, T v ≤ c := fun v => (h.i2 v).1
    have hR : ∀ v, R v ≤ r := fun v => (h.i2 v).2
    have fle : ∀ v, upd s.far (to_ x) (s.far (fr x) + wr x) v ≤ s.far v := by
      intro v
      unfold upd
      split
      · rename_i h; subst h; omega
      · exact Int.le_refl _
    have Rle : ∀ v, R v ≤ upd R (to_ x) r v := by
      intro v
      unfold upd
      split
      · exact hR v
      · exact Nat.le_refl _
    refine ⟨?_, ?_, ?_, ?_, ?_, ?_, ?_, ?_⟩
    · intro v y hy
      simp only at hy ⊢
      by_cases hv : v = to_ x
      · subst hv
        rw [upd_same] at hy
        cases hy
        rw [upd_same, upd_same, upd_other _ _ hne, upd_other _ _ hne, upd_same, upd_other _ _ hne]
        refine ⟨hx, rfl, Int.le_refl _, fun hlt => ?_, by omega⟩
        have := hT (fr x)
        omega
      · rw [upd_other _ _ hv] at hy
        obtain ⟨h1, h2, h3, h4, h5⟩ := h.i1 v y hy
        rw [upd_other _ _ hv, upd_other _ _ hv, upd_other _ _ hv]
        have := fle (fr y)
        have := Rle (fr y)
        refine ⟨h1, h2, by omega, fun hlt => ?_, by omega⟩
        by_cases hy2 : fr y = to_ x
        · rw [hy2, upd_same]; rw [hy2] at h3; omega
        · rw [upd_other _ _ hy2] at hlt ⊢; exact h4 hlt
    · intro v
      unfold upd
      split
      · exact ⟨Nat.le_refl _, Nat.le_refl _⟩
      · exact ⟨Nat.le_succ_of_le (hT v), hR v⟩
    · intro u v huv hu
      by_cases h1 : u = to_ x
      · by_cases h2 : v = to_ x
        · rw [h1, h2]
        · subst h1
          rw [upd_same, upd_other _ _ h2] at huv
          have := hT v
          omega
      · by_cases h2 : v = to_ x
        · subst h2
          rw [upd_same, upd_other _ _ h1] at huv
          have := hT u
          omega
        · rw [upd_other _ _ h1, upd_other _ _ h2] at huv
          rw [upd_other _ _ h1] at hu
          exact h.i3 u v huv hu
    · intro v hv
      by_cases h1 : v = to_ x
      · subst h1
        simp only
        rw [upd_same, upd_same]
        exact ⟨by simp, by omega⟩
      · simp only
        rw [upd_other _ _ h1] at hv ⊢
        rw [upd_other _ _ h1]
        exact h.i4 v hv
    · intro v hv
      by_cases h1 : v = to_ x
      · subst h1
        rw [upd_same]; omega
      · simp only at hv
        rw [upd_other _ _ h1] at hv ⊢
        exact h.i4' v hv
    · intro y hy
      simp only
      by_cases h1 : fr y = to_ x
      · right; rw [h1, upd_same]; exact Nat.le_refl _
      · rcases List.mem_append.1 hy with hy | hy
        · rw [upd_other _ _ h1, upd_other _ _ h1]
          have := fle (to_ y)
          rcases h.i5 y hy with h | h
          · left; omega
          · right; exact h
        · have : y = x := by simpa using hy
          subst this
          left
          rw [upd_same, upd_other _ _ h1]
          exact Int.le_refl _
    · intro y hy
      simp only
      by_cases h1 : fr y = to_ x
      · right; rw [h1, upd_same]; omega
      · rw [upd_other _ _ h1, upd_other _ _ h1]
        have := fle (to_ y)
        rcases h.i6 y (by simp [hy]) with h | h
        · left; omega
        · right; exact h
    · intro _
      simp only
      rw [upd_same]
  · have e : relax fr to_ wr s x = s := if_neg g
    refine ⟨c, T, R, ?_⟩
    rw [e]
    refine ⟨h.i1, h.i2, h.i3, h.i4, h.i4', fun y hy => ?_, fun y hy => h.i6 y (by simp [hy]), h.i7⟩
    rcases List.mem_append.1 hy with hy | hy
    · exact h.i5 y hy
    · have : y = x := by simpa using hy
      subst this
      left; omega
theorem inv_fold {ls : List L} (hns : ∀ x ∈ ls, fr x ≠ to_ x) {r : Nat} (hr : 1 ≤ r) : ∀ (Q P : List L) (c : Nat) (s : Bf N L) (T R : N → Nat), (∀ x ∈ Q, x ∈ ls) → BfInv fr to_ wr ls P Q r c s T R →
    ∃ c' T' R', BfInv fr to_ wr ls (P ++ Q) [] r c' (Q.foldl (relax fr to_ wr) s) T' R'
  | [], P, c, s, T, R, _, h => ⟨c, T, R, by rw [List.append_nil]; exact h⟩
  | x :: Q, P, c, s, T, R, hs, h => by
    obtain ⟨c', T', R', h1⟩ := inv_step hns hr (hs x (by simp)) h
    have := inv_fold hns hr Q (P ++ [x]) c' _ T' R' (fun y hy => hs y (by simp [hy])) h1
    rw [List.append_assoc] at this
    exact this
theorem inv_round {ls : List L} (hns : ∀ x ∈ ls, fr x ≠ to_ x) {r c : Nat} {s : Bf N L} {T R : N → Nat} (h : BfInv fr to_ wr ls ls [] r c s T R) :
    ∃ c' T' R', BfInv fr to_ wr ls ls [] (r + 1) c' (roundB fr to_ wr ls s) T' R' := by
  have h0 : BfInv fr to_ wr ls [] ls (r + 1) c ⟨s.far, s.bef, s.at_, 0⟩ T R :=
    ⟨h.i1, fun v => ⟨(h.i2 v).1, Nat.le_succ_of_le (h.i2 v).2⟩, h.i3, h.i4, h.i4', fun x hx => (by cases hx), fun x hx => (h.i5 x hx).imp id fun h => Nat.succ_le_succ h, fun hm => absurd rfl hm⟩
  exact inv_fold hns (by omega) ls [] c _ T R (fun _ h => h) h0
omit [DecidableEq N] in
theorem inv_start (ls : List L) (a : N) : BfInv fr to_ wr ls ls [] 0 0 ⟨fun _ => 0, fun _ => none, a, 0⟩ (fun _ => 0) (fun _ => 0) :=
  ⟨fun v x h => (by cases h), fun v => ⟨Nat.le_refl _, Nat.le_refl _⟩, fun u v _ h => absurd rfl h, fun v h => absurd rfl h, fun v h => absurd rfl h,
    fun x _ => .inr (Nat.zero_le _), fun x hx => (by cases hx), fun hm => absurd rfl hm⟩
theorem search_moves {ls : List L} (hns : ∀ x ∈ ls, fr x ≠ to_ x) : ∀ (k r c : Nat) (s s' : Bf N L) (T R : N → Nat), BfInv fr to_ wr ls ls [] r c s T R → searchB fr to_ wr ls k s = (false, s') →
    ∃ c' T' R', BfInv fr to_ wr ls ls [] (r + k + 1) c' s' T' R' ∧ s'.moved ≠ 0
  | 0, r, c, s, s', T, R, h, e => by
    unfold searchB at e
    injection e with e1 e2
    subst e2
    obtain ⟨c', T', R', h1⟩ := inv_round hns h
    exact ⟨c', T', R', h1, of_decide_eq_false e1⟩
  | k + 1, r, c, s, s', T, R, h, e => by
    unfold searchB at e
    split at e
    · cases e
    · obtain ⟨c', T', R', h1⟩ := inv_round hns h
      have := search_moves hns k (r + 1) c' _ s' T' R' h1 e
      rw [show r + (k + 1) + 1 = r + 1 + k + 1 by omega]
      exact this
variable (fr) in
def back (zero : N) (bef : N → Option L) (v : N) : N := match bef v with | some x => fr x | none => zero
variable (fr) in
def backs (zero : N) (bef : N → Option L) (v : N) : Nat → N
  | 0 => v
  | k + 1 => back fr zero bef (backs zero bef v k)
omit [DecidableEq N] in
theorem backs_add (zero : N) (bef : N → Option L) (v : N) (i : Nat) : ∀ j, backs fr zero bef v (i + j) = backs fr zero bef (backs fr zero bef v i) j
  | 0 => rfl
  | j + 1 => by rw [← Nat.add_assoc, backs, backs, backs_add zero bef v i j]
theorem nodup_le : ∀ (p q : List N), p.Nodup → (∀ x, x ∈ p → x ∈ q) → p.length ≤ q.length
  | [], _, _, _ => Nat.zero_le _
  | x :: p, q, hn, hs => by
    have hx := hs x (by simp)
    have h1 := nodup_le p (q.erase x) (List.nodup_cons.1 hn).2 fun y hy => by
      refine (List.mem_erase_of_ne ?_).2 (hs y (by simp [hy]))
      rintro rfl
      exact (List.nodup_cons.1 hn).1 hy
    rw [List.length_erase_of_mem hx] at h1
    have := List.length_pos_of_mem hx
    simp; omega
theorem twice (nodes : List N) (f : Nat → N) (m : Nat) (hm : nodes.length < m) (hf : ∀ i, i < m → f i ∈ nodes) : ∃ i j, i < j ∧ j < m ∧ f i = f j := by
  apply Classical.byContradiction
  intro hx
  have h1 := nodup_le ((List.range m).map f) nodes (by
    rw [List.Nodup, List.pairwise_map]
    refine List.Pairwise.imp_of_mem ?_ (List.pairwise_lt_range)
    intro a b ha hb hab e
    exact hx ⟨a, b, hab, List.mem_range.1 hb, e⟩) (by
    intro x hx
    obtain ⟨i, hi, rfl⟩ := List.mem_map.1 hx
    exact hf i (List.mem_range.1 hi))
  rw [List.length_map, List.length_range] at h1
  omega
variable (fr to_ wr) in
/-- a circle of links that is less than nothing -/
structure CircB (ls : List L) (out : List L) : Prop where
  sub : ∀ x ∈ out, x ∈ ls
  nodup : (out.map to_).Nodup
  nodupf : (out.map fr).Nodup
  some_ : out ≠ []
  neg : (out.map wr).sum < 0
  net : ∀ φ : N → Int, (out.map fun x => φ (to_ x) - φ (fr x)).sum = 0
variable (fr) in
/-- the links from a node back to_ it -/
def collect (zero : N) (zl : L) (bef : N → Option L) (many : Nat) (e : N) : Nat → N → List L → List L
  | 0, _, out => out
  | k + 1, v, out => if back fr zero bef v = e ∨ many < (out ++ [(bef v).getD zl]).length then out ++ [(bef v).getD zl] else collect zero zl bef many e k (back fr zero bef v) (out ++ [(bef v).getD zl])
theorem sum_range {g : Nat → Int} : ∀ p, ((List.range p).map fun i => g i - g (i + 1)).sum = g 0 - g p
  | 0 => by simp
  | p + 1 => by rw [List.range_succ, List.map_append, List.sum_append, sum_range p]; simp; omega
theorem sum_le {a b : Nat → Int} : ∀ p, (∀ i, i < p → a i ≤ b i) → ((List.range p).map a).sum ≤ ((List.range p).map b).sum
  | 0, _ => by simp
  | p + 1, h => by
    rw [List.range_succ, List.map_append, List.sum_append, List.map_append, List.sum_append]
    have h1 := sum_le p fun i hi => h i (by omega)
    have := h p (by omega)
    simp; omega
theorem sum_lt {a b : Nat → Int} : ∀ p, (∀ i, i < p → a i ≤ b i) → (∃ i, i < p ∧ a i < b i) → ((List.range p).map a).sum < ((List.range p).map b).sum
  | 0, _, ⟨i, hi, _⟩ => by omega
  | p + 1, h, ⟨i, hi, hl⟩ => by
    rw [List.range_succ, List.map_append, List.sum_append, List.map_append, List.sum_append]
    have h1 := sum_le p fun i hi => h i (by omega)
    have h2 := h p (by omega)
    by_cases e : i = p
    · subst e; simp; omega
    · have := sum_lt p (fun i hi => h i (by omega)) ⟨i, by omega, hl⟩
      simp; omega
theorem collect_is (zero : N) (zl : L) (bef : N → Option L) (many : Nat) (e : N) (p : Nat) (hp : 1 ≤ p) (hpm : p ≤ many) (he : backs fr zero bef e p = e) (hmin : ∀ q, 1 ≤ q → q < p → backs fr zero bef e q ≠ e) :
    ∀ (d i k : Nat), i + d + 1 = p → d < k → collect fr zero zl bef many e k (backs fr zero bef e i) ((List.range i).map fun i => (bef (backs fr zero bef e i)).getD zl) = (List.range p).map fun i => (bef (backs fr zero bef e i)).getD zl
  | d, i, 0, _, hk => by omega
  | 0, i, k + 1, hi, _ => by
    rw [collect, if_pos]
    · rw [← hi, List.range_succ, List.map_append]; rfl
    · left
      show backs fr zero bef e (i + 1) = e
      rw [show i + 1 = p by omega]; exact he
  | d + 1, i, k + 1, hi, hk => by
    rw [collect, if_neg]
    · have := collect_is zero zl bef many e p hp hpm he hmin d (i + 1) k (by omega) (by omega)
      rw [List.range_succ, List.map_append] at this
      exact this
    · rintro (h | h)
      · exact hmin (i + 1) (by omega) (by omega) h
      · simp at h; omega
theorem least {P : Nat → Prop} : ∀ n, P n → ∃ m, m ≤ n ∧ P m ∧ ∀ k, k < m → ¬ P k := by
  intro n
  induction n using Nat.strongRecOn with
  | _ n ih =>
    intro h
    by_cases g : ∃ k, k < n ∧ P k
    · obtain ⟨k, hk, hp⟩ := g
      obtain ⟨m, h1, h2, h3⟩ := ih k hk hp
      exact ⟨m, by omega, h2, h3⟩
    · exact ⟨n, Nat.le_refl _, h, fun k hk hp => g ⟨k, hk, hp⟩⟩
theorem search_circle {ls : List L} (hns : ∀ x ∈ ls, fr x ≠ to_ x) (nodes : List N) (hnodes : ∀ x ∈ ls, to_ x ∈ nodes) (many : Nat) (hmany : nodes.length = many) (a zero : N) (zl : L) (s : Bf N L)
    (h : searchB fr to_ wr ls many ⟨fun _ => 0, fun _ => none, a, 0⟩ = (false, s)) {k : Nat} (hk : many < k) :
    CircB fr to_ wr ls (collect fr zero zl s.bef many (backs fr zero s.bef s.at_ many) k (backs fr zero s.bef s.at_ many) []) := by
  obtain ⟨c, T, R, hI, hm⟩ := search_moves hns many 0 0 _ s _ _ (inv_start ls a) h
  have hat := hI.i7 hm
  have hch : ∀ i, i ≤ many → many + 1 ≤ R (backs fr zero s.bef s.at_ i) + i := by
    intro i
    induction i with
    | zero => intro _; show many + 1 ≤ R s.at_ + 0; omega
    | succ i ih =>
      intro hi
      have h1 := ih (by omega)
      have h2 := (hI.i4 (backs fr zero s.bef s.at_ i) (by omega)).1
      cases hb : s.bef (backs fr zero s.bef s.at_ i) with
      | none => exact absurd hb h2
      | some x =>
        have h3 := (hI.i1 _ x hb).2.2.2.2
        have e : backs fr zero s.bef s.at_ (i + 1) = fr x := by rw [backs, back, hb]
        rw [e]; omega
  have hbef : ∀ v, R v ≠ 0 → ∃ x, s.bef v = some x ∧ to_ x = v ∧ x ∈ ls := by
    intro v hv
    cases hb : s.bef v with
    | none => exact absurd hb (hI.i4 v hv).1
    | some x => exact ⟨x, rfl, (hI.i1 v x hb).2.1, (hI.i1 v x hb).1⟩
  obtain ⟨i, j, hij, hj, hv⟩ := twice nodes (fun i => backs fr zero s.bef s.at_ i) (many + 1) (by omega) (by
    intro i hi
    have := hch i (by omega)
    obtain ⟨x, -, hx, hm⟩ := hbef (backs fr zero s.bef s.at_ i) (by omega)
    have := hnodes x hm
    rwa [hx] at this)
  have hv : backs fr zero s.bef s.at_ i = backs fr zero s.bef s.at_ j := hv
  obtain ⟨e, he⟩ : ∃ e, e = backs fr zero s.bef s.at_ many := ⟨_, rfl⟩
  have hall : ∀ n, ∃ i', i' ≤ many ∧ backs fr zero s.bef s.at_ n = backs fr zero s.bef s.at_ i' := by
    intro n
    induction n using Nat.strongRecOn with
    | _ n ih =>
      by_cases hn : n ≤ many
      · exact ⟨n, hn, rfl⟩
      · obtain ⟨i', h1, h2⟩ := ih (i + (n - j)) (by omega)
        refine ⟨i', h1, ?_⟩
        rw [← h2, show n = j + (n - j) by omega, backs_add, ← hv, ← backs_add, show j + (n - j) - j = n - j by omega]
  have hR : ∀ t, R (backs fr zero s.bef e t) ≠ 0 := by
    intro t
    rw [he, ← backs_add]
    obtain ⟨i', h1, h2⟩ := hall (many + t)
    rw [h2]
    have := hch i' h1
    omega
  have hper : backs fr zero s.bef e (j - i) = e := by
    rw [he, ← backs_add, show many + (j - i) = j + (many - i) by omega, backs_add, ← hv, ← backs_add, show i + (many - i) = many by omega]
  obtain ⟨p, hpj, ⟨hp1, hpe⟩, hmin⟩ := least (P := fun p => 1 ≤ p ∧ backs fr zero s.bef e p = e) (j - i) ⟨by omega, hper⟩
  have hmin' : ∀ q, 1 ≤ q → q < p → backs fr zero s.bef e q ≠ e := fun q h1 h2 h3 => hmin q h2 ⟨h1, h3⟩
  rw [← he]
  have hcol := collect_is (fr := fr) zero zl s.bef many e p hp1 (by omega) hpe hmin' (p - 1) 0 k (by omega) (by omega)
  rw [List.range_zero, List.map_nil, backs] at hcol
  rw [hcol]
  have hx : ∀ t, ∃ x, s.bef (backs fr zero s.bef e t) = some x ∧ to_ x = backs fr zero s.bef e t ∧ x ∈ ls ∧ fr x = backs fr zero s.bef e (t + 1) := by
    intro t
    obtain ⟨x, h1, h2, h3⟩ := hbef _ (hR t)
    exact ⟨x, h1, h2, h3, by rw [backs, back, h1]⟩
  have hg : ∀ t, ((s.bef (backs fr zero s.bef e t)).getD zl) ∈ ls ∧ to_ ((s.bef (backs fr zero s.bef e t)).getD zl) = backs fr zero s.bef e t ∧ fr ((s.bef (backs fr zero s.bef e t)).getD zl) = backs fr zero s.bef e (t + 1) := by
    intro t
    obtain ⟨x, h1, h2, h3, h4⟩ := hx t
    rw [h1]
    exact ⟨h3, h2, h4⟩
  refine ⟨?_, ?_, ?_, ?_, ?_, ?_⟩
  · intro x hx
    obtain ⟨t, -, rfl⟩ := List.mem_map.1 hx
    exact (hg t).1
  · rw [List.map_map, List.Nodup, List.pairwise_map]
    refine List.Pairwise.imp_of_mem ?_ (List.pairwise_lt_range)
    intro a b ha hb hab hc
    have hb := List.mem_range.1 hb
    rw [Function.comp_apply, Function.comp_apply, (hg a).2.1, (hg b).2.1] at hc
    refine hmin' (a + (p - b)) (by omega) (by omega) ?_
    rw [backs_add, hc, ← backs_add, show b + (p - b) = p by omega]
    exact hpe
  · rw [List.map_map, List.Nodup, List.pairwise_map]
    refine List.Pairwise.imp_of_mem ?_ (List.pairwise_lt_range)
    intro a b ha hb hab hc
    have hb := List.mem_range.1 hb
    rw [Function.comp_apply, Function.comp_apply, (hg a).2.2, (hg b).2.2] at hc
    by_cases hbp : b + 1 = p
    · rw [hbp, hpe] at hc
      exact hmin' (a + 1) (by omega) (by omega) hc
    · refine hmin' (a + 1 + (p - (b + 1))) (by omega) (by omega) ?_
      rw [backs_add, hc, ← backs_add, show b + 1 + (p - (b + 1)) = p by omega]
      exact hpe
  · intro h0
    have := congrArg List.length h0
    rw [List.length_map, List.length_range] at this
    simp at this
    omega
  · rw [List.map_map]
    have hlt := sum_lt (a := fun t => wr ((s.bef (backs fr zero s.bef e t)).getD zl)) (b := fun t => s.far (backs fr zero s.bef e t) - s.far (backs fr zero s.bef e (t + 1))) p (by
      intro t _
      obtain ⟨x, h1, h2, h3, h4⟩ := hx t
      have := (hI.i1 _ x h1).2.2.1
      rw [h4] at this
      simp only [h1, Option.getD_some]
      omega) (by
      apply Classical.byContradiction
      intro hno
      have hT : ∀ t, t < p → T (backs fr zero s.bef e (t + 1)) ≤ T (backs fr zero s.bef e t) := by
        intro t ht
        apply Classical.byContradiction
        intro hlt
        refine hno ⟨t, ht, ?_⟩
        obtain ⟨x, h1, h2, h3, h4⟩ := hx t
        have := (hI.i1 _ x h1).2.2.2.1
        rw [h4] at this
        have := this (by omega)
        simp only [h1, Option.getD_some]
        omega
      have h1 : ∀ t, 1 ≤ t → t ≤ p → T (backs fr zero s.bef e t) ≤ T (backs fr zero s.bef e 1) := by
        intro t
        induction t with
        | zero => intro h; omega
        | succ t ih =>
          intro _ htp
          by_cases h0 : t = 0
          · subst h0; exact Nat.le_refl _
          · exact Nat.le_trans (hT t (by omega)) (ih (by omega) (by omega))
      have h2 := h1 p hp1 (Nat.le_refl _)
      rw [hpe] at h2
      have h3 := hT 0 (by omega)
      have h3 : T (backs fr zero s.bef e 1) ≤ T e := h3
      have h4 := hI.i3 e (backs fr zero s.bef e 1) (by omega) (hI.i4 e (hR 0)).2
      obtain ⟨x, g1, g2, g3, g4⟩ := hx 0
      refine hns x g3 ?_
      rw [g2, g4]
      exact h4.symm)
    rw [sum_range (g := fun t => s.far (backs fr zero s.bef e t))] at hlt
    rw [hpe] at hlt
    have : s.far (backs fr zero s.bef e 0) = s.far e := rfl
    rw [this, Int.sub_self] at hlt
    exact hlt
  · intro φ
    rw [List.map_map]
    have : (List.range p).map ((fun x => φ (to_ x) - φ (fr x)) ∘ fun i => (s.bef (backs fr zero s.bef e i)).getD zl) = (List.range p).map fun t => φ (backs fr zero s.bef e t) - φ (backs fr zero s.bef e (t + 1)) :=
      List.map_congr_left fun t _ => by rw [Function.comp_apply, (hg t).2.1, (hg t).2.2]
    rw [this, sum_range (g := fun t => φ (backs fr zero s.bef e t)), hpe]
    have : backs fr zero s.bef e 0 = e := rfl
    rw [this]
    exact Int.sub_self _
end
def sumR (n : Nat) (f : Nat → Int) : Int := ((List.range n).map f).sum
theorem sumR_zero (f : Nat → Int) : sumR 0 f = 0 := rfl
theorem sumR_succ (n : Nat) (f : Nat → Int) : sumR (n + 1) f = sumR n f + f n := by
  rw [sumR, List.range_succ, List.map_append, List.sum_append]; simp [sumR]
theorem sumR_congr {f g : Nat → Int} : ∀ {n : Nat}, (∀ i, i < n → f i = g i) → sumR n f = sumR n g
  | 0, _ => rfl
  | n + 1, h => by rw [sumR_succ, sumR_succ, sumR_congr fun i hi => h i (by omega), h n (by omega)]
theorem sumR_add (f g : Nat → Int) : ∀ n, sumR n (fun i => f i + g i) = sumR n f + sumR n g
  | 0 => rfl
  | n + 1 => by rw [sumR_succ, sumR_succ, sumR_succ, sumR_add f g n]; omega
theorem sumR_mul (c : Int) (f : Nat → Int) : ∀ n, sumR n (fun i => c * f i) = c * sumR n f
  | 0 => by simp [sumR_zero]
  | n + 1 => by rw [sumR_succ, sumR_succ, sumR_mul c f n, Int.mul_add]
theorem sumR_const0 : ∀ n, sumR n (fun _ => 0) = 0
  | 0 => rfl
  | n + 1 => by rw [sumR_succ, sumR_const0 n]; rfl
theorem sumR_zero' {f : Nat → Int} {n : Nat} (h : ∀ i, i < n → f i = 0) : sumR n f = 0 := (sumR_congr h).trans (sumR_const0 n)
theorem sumR_one {f : Nat → Int} : ∀ {n k : Nat}, k < n → (∀ i, i < n → i ≠ k → f i = 0) → sumR n f = f k
  | 0, k, h, _ => by omega
  | n + 1, k, h, hf => by
    rw [sumR_succ]
    by_cases e : k = n
    · subst e; rw [sumR_zero' fun i hi => hf i (by omega) (by omega)]; omega
    · rw [sumR_one (k := k) (by omega) fun i hi hne => hf i (by omega) hne, hf n (by omega) (by omega)]; omega
theorem sumR_le {f g : Nat → Int} : ∀ {n : Nat}, (∀ i, i < n → f i ≤ g i) → sumR n f ≤ sumR n g
  | 0, _ => Int.le_refl _
  | n + 1, h => by
    rw [sumR_succ, sumR_succ]
    have := sumR_le (f := f) (g := g) fun i hi => h i (Nat.lt_succ_of_lt hi)
    have := h n (Nat.lt_succ_self n)
    omega
theorem sumR_neg (f : Nat → Int) : ∀ n, sumR n (fun i => - f i) = - sumR n f
  | 0 => rfl
  | n + 1 => by rw [sumR_succ, sumR_succ, sumR_neg f n]; omega
theorem sumR_sub (f g : Nat → Int) (n : Nat) : sumR n (fun i => f i - g i) = sumR n f - sumR n g := by
  have := sumR_add f (fun i => - g i) n
  rw [sumR_neg] at this
  rw [sumR_congr (g := fun i => f i + - g i) fun i _ => by omega, this]; omega
theorem sumR_swap (f : Nat → Nat → Int) (m : Nat) : ∀ n, sumR n (fun i => sumR m fun j => f i j) = sumR m fun j => sumR n fun i => f i j
  | 0 => by rw [sumR_zero]; exact (sumR_zero' fun i _ => sumR_zero _).symm
  | n + 1 => by
    rw [sumR_succ, sumR_swap f m n, ← sumR_add]
    exact sumR_congr fun j _ => (sumR_succ n _).symm
theorem sumR_split (f : Nat → Int) (n : Nat) : ∀ m, sumR (n + m) f = sumR n f + sumR m fun i => f (n + i)
  | 0 => by rw [sumR_zero]; simp
  | m + 1 => by rw [← Nat.add_assoc, sumR_succ, sumR_split f n m, sumR_succ]; omega
theorem sumR_rows (f : Nat → Int) (m : Nat) : ∀ n, sumR (n * m) f = sumR n fun o => sumR m fun p => f (o * m + p)
  | 0 => by rw [Nat.zero_mul]; rfl
  | n + 1 => by rw [Nat.succ_mul, sumR_split, sumR_rows f m n, sumR_succ]
def rgAt (l : List (Int × Int)) (i : Nat) : Int × Int := l.getD i (0, 0)
structure Sh where
  os : List (Int × Int)
  ps : List (Int × Int)
  all : Int × Int
  cs : List (Int × Int)
def RgOk (r : Int × Int) : Prop := 0 ≤ r.1 ∧ r.1 ≤ r.2 ∧ r.2 ≤ 1000
structure Sh.Ok (S : Sh) : Prop where
  n1 : 1 ≤ S.os.length
  n5 : S.os.length ≤ 5
  m1 : 1 ≤ S.ps.length
  m5 : S.ps.length ≤ 5
  len : S.cs.length = S.os.length * S.ps.length
  ho : ∀ i, i < S.os.length → RgOk (rgAt S.os i)
  hp : ∀ i, i < S.ps.length → RgOk (rgAt S.ps i)
  ha : RgOk S.all
  hc : ∀ i, i < S.cs.length → RgOk (rgAt S.cs i)
abbrev Sh.n (S : Sh) : Nat := S.os.length
abbrev Sh.m (S : Sh) : Nat := S.ps.length
def tat (t : List Int) (i : Nat) : Int := t.getD i 0
def ownS (m : Nat) (T : Nat → Int) (o : Nat) : Int := sumR m fun p => T (o * m + p)
def pckS (n m : Nat) (T : Nat → Int) (p : Nat) : Int := sumR n fun o => T (o * m + p)
def allS (n m : Nat) (T : Nat → Int) : Int := sumR n fun o => ownS m T o
theorem allS_pck (n m : Nat) (T : Nat → Int) : allS n m T = sumR m fun p => pckS n m T p := sumR_swap (fun o p => T (o * m + p)) m n
def bes (n : Int) (r : Int × Int) : Int := max 0 (max (r.1 - n) (n - r.2))
def wrongS (S : Sh) (T : Nat → Int) : Int := bes (allS S.n S.m T) S.all + sumR S.n (fun o => bes (ownS S.m T o) (rgAt S.os o)) + sumR S.m (fun p => bes (pckS S.n S.m T p) (rgAt S.ps p))
def InT (S : Sh) (T : Nat → Int) : Prop := ∀ i, i < S.cs.length → (rgAt S.cs i).1 ≤ T i ∧ T i ≤ (rgAt S.cs i).2
inductive Kn
  | upO (i : Nat) | dnO (i : Nat) | upP (p : Nat) | dnP (p : Nat) | upW | dnW | fw (o p : Nat) | bk (o p : Nat)
deriving DecidableEq
def gateN : Int × Int := (0, 0)
def ownN' (i : Nat) : Int × Int := (1, (i : Int))
def pckN (p : Nat) : Int × Int := (2, (p : Int))
def boomN : Int × Int := (3, 0)
def Kn.fr : Kn → Int × Int
  | .upO _ => gateN | .dnO i => ownN' i | .upP p => pckN p | .dnP _ => boomN | .upW => boomN | .dnW => gateN | .fw o _ => ownN' o | .bk _ p => pckN p
def Kn.to_ : Kn → Int × Int
  | .upO i => ownN' i | .dnO _ => gateN | .upP _ => boomN | .dnP p => pckN p | .upW => gateN | .dnW => boomN | .fw _ p => pckN p | .bk o _ => ownN' o
def upWr (n : Int) (r : Int × Int) : Int := if n < r.1 then -1 else if n < r.2 then 0 else 1
def upRm (n : Int) (r : Int × Int) : Int := if n < r.1 then r.1 - n else if n < r.2 then r.2 - n else 1099511627776
def dnWr (n : Int) (r : Int × Int) : Int := if r.2 < n then -1 else if r.1 < n then 0 else 1
def dnRm (n : Int) (r : Int × Int) : Int := if r.2 < n then n - r.2 else if r.1 < n then n - r.1 else 1099511627776
def Kn.wr (S : Sh) (T : Nat → Int) : Kn → Int
  | .upO i => upWr (ownS S.m T i) (rgAt S.os i) | .dnO i => dnWr (ownS S.m T i) (rgAt S.os i)
  | .upP p => upWr (pckS S.n S.m T p) (rgAt S.ps p) | .dnP p => dnWr (pckS S.n S.m T p) (rgAt S.ps p)
  | .upW => upWr (allS S.n S.m T) S.all | .dnW => dnWr (allS S.n S.m T) S.all | .fw _ _ => 0 | .bk _ _ => 0
def Kn.room (S : Sh) (T : Nat → Int) : Kn → Int
  | .upO i => upRm (ownS S.m T i) (rgAt S.os i) | .dnO i => dnRm (ownS S.m T i) (rgAt S.os i)
  | .upP p => upRm (pckS S.n S.m T p) (rgAt S.ps p) | .dnP p => dnRm (pckS S.n S.m T p) (rgAt S.ps p)
  | .upW => upRm (allS S.n S.m T) S.all | .dnW => dnRm (allS S.n S.m T) S.all
  | .fw o p => (rgAt S.cs (o * S.m + p)).2 - T (o * S.m + p) | .bk o p => T (o * S.m + p) - (rgAt S.cs (o * S.m + p)).1
def Kn.Is (S : Sh) : Kn → Prop
  | .upO i => i < S.n | .dnO i => i < S.n | .upP p => p < S.m | .dnP p => p < S.m | .upW => True | .dnW => True | .fw o p => o < S.n ∧ p < S.m | .bk o p => o < S.n ∧ p < S.m
def byKind (S : Sh) (c : Kn → Int) (h : Kn → Int) : Int :=
  sumR S.n (fun i => c (.upO i) * h (.upO i) + c (.dnO i) * h (.dnO i)) + sumR S.m (fun p => c (.upP p) * h (.upP p) + c (.dnP p) * h (.dnP p)) + (c .upW * h .upW + c .dnW * h .dnW)
    + sumR S.n fun o => sumR S.m fun p => c (.fw o p) * h (.fw o p) + c (.bk o p) * h (.bk o p)
def cnt (l : List Kn) (k : Kn) : Int := (l.count k : Int)
theorem byKind_add (S : Sh) (c d h : Kn → Int) : byKind S (fun k => c k + d k) h = byKind S c h + byKind S d h := by
  unfold byKind
  have e1 : sumR S.n (fun i => (c (.upO i) + d (.upO i)) * h (.upO i) + (c (.dnO i) + d (.dnO i)) * h (.dnO i)) = sumR S.n (fun i => c (.upO i) * h (.upO i) + c (.dnO i) * h (.dnO i)) + sumR S.n (fun i => d (.upO i) * h (.upO i) + d (.dnO i) * h (.dnO i)) := by
    rw [← sumR_add]; exact sumR_congr fun i _ => by rw [Int.add_mul, Int.add_mul]; omega
  have e2 : sumR S.m (fun i => (c (.upP i) + d (.upP i)) * h (.upP i) + (c (.dnP i) + d (.dnP i)) * h (.dnP i)) = sumR S.m (fun i => c (.upP i) * h (.upP i) + c (.dnP i) * h (.dnP i)) + sumR S.m (fun i => d (.upP i) * h (.upP i) + d (.dnP i) * h (.dnP i)) := by
    rw [← sumR_add]; exact sumR_congr fun i _ => by rw [Int.add_mul, Int.add_mul]; omega
  have e3 : (sumR S.n fun o => sumR S.m fun p => (c (.fw o p) + d (.fw o p)) * h (.fw o p) + (c (.bk o p) + d (.bk o p)) * h (.bk o p)) = (sumR S.n fun o => sumR S.m fun p => c (.fw o p) * h (.fw o p) + c (.bk o p) * h (.bk o p)) + sumR S.n fun o => sumR S.m fun p => d (.fw o p) * h (.fw o p) + d (.bk o p) * h (.bk o p) := by
    rw [← sumR_add]
    refine sumR_congr fun i _ => ?_
    rw [← sumR_add]; exact sumR_congr fun i _ => by rw [Int.add_mul, Int.add_mul]; omega
  rw [e1, e2, e3, Int.add_mul, Int.add_mul]
  omega
theorem byKind_zero (S : Sh) (h : Kn → Int) : byKind S (fun _ => 0) h = 0 := by
  unfold byKind
  simp only [Int.zero_mul, Int.add_zero]
  simp only [sumR_const0]
  rfl
theorem byKind_one (S : Sh) (h : Kn → Int) {k : Kn} (hk : k.Is S) : byKind S (fun x => if x = k then 1 else 0) h = h k := by
  unfold byKind
  cases k with
  | upO i =>
    rw [sumR_one (k := i) hk (by intro j _ hj; simp [hj]), sumR_zero' (by intro j _; simp), sumR_zero' (by intro j _; refine sumR_zero' fun p _ => ?_; simp)]
    simp
  | dnO i =>
    rw [sumR_one (k := i) hk (by intro j _ hj; simp [hj]), sumR_zero' (by intro j _; simp), sumR_zero' (by intro j _; refine sumR_zero' fun p _ => ?_; simp)]
    simp
  | upP i =>
    rw [sumR_zero' (by intro j _; simp), sumR_one (k := i) hk (by intro j _ hj; simp [hj]), sumR_zero' (by intro j _; refine sumR_zero' fun p _ => ?_; simp)]
    simp
  | dnP i =>
    rw [sumR_zero' (by intro j _; simp), sumR_one (k := i) hk (by intro j _ hj; simp [hj]), sumR_zero' (by intro j _; refine sumR_zero' fun p _ => ?_; simp)]
    simp
  | upW =>
    rw [sumR_zero' (by intro j _; simp), sumR_zero' (by intro j _; simp), sumR_zero' (by intro j _; refine sumR_zero' fun p _ => ?_; simp)]
    simp
  | dnW =>
    rw [sumR_zero' (by intro j _; simp), sumR_zero' (by intro j _; simp), sumR_zero' (by intro j _; refine sumR_zero' fun p _ => ?_; simp)]
    simp
  | fw o p =>
    rw [sumR_zero' (by intro j _; simp), sumR_zero' (by intro j _; simp), sumR_one (k := o) hk.1 (by intro j _ hj; refine sumR_zero' fun p _ => ?_; simp [hj]), sumR_one (k := p) hk.2 (by intro j _ hj; simp [hj])]
    simp
  | bk o p =>
    rw [sumR_zero' (by intro j _; simp), sumR_zero' (by intro j _; simp), sumR_one (k := o) hk.1 (by intro j _ hj; refine sumR_zero' fun p _ => ?_; simp [hj]), sumR_one (k := p) hk.2 (by intro j _ hj; simp [hj])]
    simp
theorem sum_byKind (S : Sh) (h : Kn → Int) : ∀ l : List Kn, (∀ k ∈ l, k.Is S) → (l.map h).sum = byKind S (cnt l) h
  | [], _ => (byKind_zero S h).symm
  | k :: l, hl => by
    rw [List.map_cons, List.sum_cons, sum_byKind S h l fun x hx => hl x (by simp [hx]), ← byKind_one S h (hl k (by simp)), ← byKind_add]
    congr 1
    funext x
    unfold cnt
    rw [List.count_cons]
    by_cases e : x = k
    · subst e; simp; omega
    · have : ¬ (k = x) := fun h => e h.symm
      simp [e, this]
def moved (m : Nat) (T : Nat → Int) (c : Kn → Int) (r : Int) : Nat → Int := fun i => T i + r * (c (.fw (i / m) (i % m)) - c (.bk (i / m) (i % m)))
theorem moved_at {m : Nat} (T : Nat → Int) (c : Kn → Int) (r : Int) {o p : Nat} (hp : p < m) : moved m T c r (o * m + p) = T (o * m + p) + r * (c (.fw o p) - c (.bk o p)) := by
  unfold moved
  have h1 : (o * m + p) / m = o := by rw [Nat.add_comm, Nat.add_mul_div_right _ _ (by omega), Nat.div_eq_of_lt hp, Nat.zero_add]
  have h2 : (o * m + p) % m = p := by rw [Nat.add_comm, Nat.add_mul_mod_self_right, Nat.mod_eq_of_lt hp]
  rw [h1, h2]
structure Circ (S : Sh) (out : List Kn) : Prop where
  is : ∀ k ∈ out, k.Is S
  nodup : out.Nodup
  net : ∀ φ : Int × Int → Int, (out.map fun k => φ k.to_ - φ k.fr).sum = 0
theorem cnt01 {out : List Kn} (h : out.Nodup) (k : Kn) : (cnt out k = 0 ∧ k ∉ out) ∨ (cnt out k = 1 ∧ k ∈ out) := by
  unfold cnt
  by_cases hk : k ∈ out
  · right; exact ⟨by rw [h.count, if_pos hk]; rfl, hk⟩
  · left; exact ⟨by rw [List.count_eq_zero.2 hk]; rfl, hk⟩
theorem circ_own {S : Sh} {out : List Kn} (h : Circ S out) {o : Nat} (ho : o < S.n) : sumR S.m (fun p => cnt out (.fw o p) - cnt out (.bk o p)) = cnt out (.upO o) - cnt out (.dnO o) := by
  have h1 := h.net fun x => if x = ownN' o then 1 else 0
  rw [sum_byKind S _ out h.is] at h1
  unfold byKind at h1
  rw [sumR_one (k := o) ho (by intro j _ hj; simp [Kn.to_, Kn.fr, ownN', gateN, (show ¬ ((j : Int) = (o : Int)) by omega)]), sumR_zero' (by intro j _; simp [Kn.to_, Kn.fr, ownN', boomN, pckN]),
    sumR_one (k := o) ho (by intro j _ hj; refine sumR_zero' fun p _ => ?_; simp [Kn.to_, Kn.fr, ownN', pckN, (show ¬ ((j : Int) = (o : Int)) by omega)])] at h1
  simp [Kn.to_, Kn.fr, ownN', gateN, boomN, pckN] at h1
  have h2 : sumR S.m (fun p => cnt out (.fw o p) - cnt out (.bk o p)) = - sumR S.m (fun p => - cnt out (.fw o p) + cnt out (.bk o p)) := by
    rw [← sumR_neg]; exact sumR_congr fun i _ => by omega
  omega
theorem circ_pck {S : Sh} {out : List Kn} (h : Circ S out) {p : Nat} (hp : p < S.m) : sumR S.n (fun o => cnt out (.fw o p) - cnt out (.bk o p)) = cnt out (.upP p) - cnt out (.dnP p) := by
  have h1 := h.net fun x => if x = pckN p then 1 else 0
  rw [sum_byKind S _ out h.is] at h1
  unfold byKind at h1
  rw [sumR_zero' (by intro j _; simp [Kn.to_, Kn.fr, ownN', gateN, pckN]), sumR_one (k := p) hp (by intro j _ hj; simp [Kn.to_, Kn.fr, pckN, boomN, (show ¬ ((j : Int) = (p : Int)) by omega)])] at h1
  have h2 : ∀ o, o < S.n → (sumR S.m fun q => cnt out (.fw o q) * ((if Kn.to_ (.fw o q) = pckN p then 1 else 0) - if Kn.fr (.fw o q) = pckN p then 1 else 0) + cnt out (.bk o q) * ((if Kn.to_ (.bk o q) = pckN p then 1 else 0) - if Kn.fr (.bk o q) = pckN p then 1 else 0)) = cnt out (.fw o p) - cnt out (.bk o p) := by
    intro o _
    rw [sumR_one (k := p) hp]
    · simp [Kn.to_, Kn.fr, ownN', pckN]; omega
    · intro j _ hj
      simp [Kn.to_, Kn.fr, ownN', pckN, (show ¬ ((j : Int) = (p : Int)) by omega)]
  rw [sumR_congr (n := S.n) h2] at h1
  simp [Kn.to_, Kn.fr, ownN', gateN, boomN, pckN] at h1
  omega
theorem circ_all {S : Sh} {out : List Kn} (h : Circ S out) : sumR S.m (fun p => cnt out (.upP p) - cnt out (.dnP p)) = cnt out .upW - cnt out .dnW := by
  have h1 := h.net fun x => if x = boomN then 1 else 0
  rw [sum_byKind S _ out h.is] at h1
  unfold byKind at h1
  rw [sumR_zero' (n := S.n) (f := fun i => _ + _) (by intro j _; simp [Kn.to_, Kn.fr, ownN', gateN, boomN]), sumR_zero' (n := S.n) (f := fun o => sumR S.m _) (by intro j _; refine sumR_zero' fun p _ => ?_; simp [Kn.to_, Kn.fr, ownN', boomN, pckN]),
    sumR_congr (n := S.m) (g := fun p => cnt out (.upP p) - cnt out (.dnP p)) (fun p _ => by simp [Kn.to_, Kn.fr, boomN, pckN]; omega)] at h1
  simp [Kn.to_, Kn.fr, gateN, boomN] at h1
  omega
theorem own_moved {S : Sh} {out : List Kn} (h : Circ S out) (T : Nat → Int) (r : Int) {o : Nat} (ho : o < S.n) : ownS S.m (moved S.m T (cnt out) r) o = ownS S.m T o + r * (cnt out (.upO o) - cnt out (.dnO o)) := by
  unfold ownS
  rw [sumR_congr fun p hp => moved_at T (cnt out) r hp, sumR_add, sumR_mul, circ_own h ho]
theorem pck_moved {S : Sh} {out : List Kn} (h : Circ S out) (T : Nat → Int) (r : Int) {p : Nat} (hp : p < S.m) : pckS S.n S.m (moved S.m T (cnt out) r) p = pckS S.n S.m T p + r * (cnt out (.upP p) - cnt out (.dnP p)) := by
  unfold pckS
  rw [sumR_congr fun o _ => moved_at T (cnt out) r hp, sumR_add, sumR_mul, circ_pck h hp]
theorem all_moved {S : Sh} {out : List Kn} (h : Circ S out) (T : Nat → Int) (r : Int) : allS S.n S.m (moved S.m T (cnt out) r) = allS S.n S.m T + r * (cnt out .upW - cnt out .dnW) := by
  rw [allS_pck, allS_pck, sumR_congr fun p hp => pck_moved h T r hp, sumR_add, sumR_mul, circ_all h]
theorem bes_moved {n : Int} {g : Int × Int} (hg : g.1 ≤ g.2) {u d r : Int} (hr : 0 ≤ r) (hu : u = 0 ∨ u = 1 ∧ r ≤ upRm n g) (hd : d = 0 ∨ d = 1 ∧ r ≤ dnRm n g) : bes (n + r * (u - d)) g ≤ bes n g + r * (u * upWr n g + d * dnWr n g) := by
  rcases hu with rfl | ⟨rfl, hu⟩ <;> rcases hd with rfl | ⟨rfl, hd⟩
  · simp
  · have e : r * ((0 : Int) - 1) = -r := by rw [Int.zero_sub, Int.mul_neg, Int.mul_one]
    rw [e, Int.zero_mul, Int.one_mul, Int.zero_add]
    unfold dnWr
    unfold dnRm at hd
    unfold bes
    split
    · rename_i h; rw [if_pos h] at hd; omega
    · rename_i h; rw [if_neg h] at hd
      split
      · rename_i h2; rw [if_pos h2] at hd; omega
      · omega
  · have e : r * ((1 : Int) - 0) = r := by rw [Int.sub_zero, Int.mul_one]
    rw [e, Int.zero_mul, Int.one_mul, Int.add_zero]
    unfold upWr
    unfold upRm at hu
    unfold bes
    split
    · rename_i h; rw [if_pos h] at hu; omega
    · rename_i h; rw [if_neg h] at hu
      split
      · rename_i h2; rw [if_pos h2] at hu; omega
      · omega
  · have e : r * ((1 : Int) - 1) = 0 := by rw [Int.sub_self, Int.mul_zero]
    have h0 : 0 ≤ upWr n g + dnWr n g := by
      unfold upWr dnWr
      split <;> split <;> (try split) <;> (try split) <;> omega
    rw [e, Int.one_mul, Int.one_mul, Int.add_zero]
    have := Int.mul_nonneg hr h0
    omega
theorem in_moved {S : Sh} (hS : S.Ok) {out : List Kn} (h : Circ S out) {T : Nat → Int} (hT : InT S T) {r : Int} (hr : 0 ≤ r) (hroom : ∀ k ∈ out, r ≤ k.room S T) : InT S (moved S.m T (cnt out) r) := by
  intro i hi
  have hm := hS.m1
  obtain ⟨o, p, hp, rfl⟩ : ∃ o p, p < S.m ∧ i = o * S.m + p := ⟨i / S.m, i % S.m, Nat.mod_lt _ hm, by rw [Nat.mul_comm]; exact (Nat.div_add_mod _ _).symm⟩
  rw [moved_at T _ r hp]
  have hb := hT _ hi
  rcases cnt01 h.nodup (.fw o p) with ⟨e1, -⟩ | ⟨e1, m1⟩ <;> rcases cnt01 h.nodup (.bk o p) with ⟨e2, -⟩ | ⟨e2, m2⟩
  · rw [e1, e2]; simpa using hb
  · have h2 : r ≤ T (o * S.m + p) - (rgAt S.cs (o * S.m + p)).1 := hroom _ m2
    rw [e1, e2, Int.zero_sub, Int.mul_neg, Int.mul_one]; omega
  · have h2 : r ≤ (rgAt S.cs (o * S.m + p)).2 - T (o * S.m + p) := hroom _ m1
    rw [e1, e2, Int.sub_zero, Int.mul_one]; omega
  · rw [e1, e2, Int.sub_self, Int.mul_zero]; omega
theorem wrong_moved {S : Sh} (hS : S.Ok) {out : List Kn} (h : Circ S out) {T : Nat → Int} {r : Int} (hr : 0 ≤ r) (hroom : ∀ k ∈ out, r ≤ k.room S T) :
    wrongS S (moved S.m T (cnt out) r) ≤ wrongS S T + r * (out.map (Kn.wr S T)).sum := by
  rw [sum_byKind S _ out h.is]
  have c := fun k => cnt01 h.nodup k
  have b1 := fun (o : Nat) (ho : o < S.n) => bes_moved (n := ownS S.m T o) (g := rgAt S.os o) (hS.ho o ho).2.1 hr ((c (.upO o)).imp And.left fun h => ⟨h.1, hroom (.upO o) h.2⟩) ((c (.dnO o)).imp And.left fun h => ⟨h.1, hroom (.dnO o) h.2⟩)
  have b2 := fun (p : Nat) (hp : p < S.m) => bes_moved (n := pckS S.n S.m T p) (g := rgAt S.ps p) (hS.hp p hp).2.1 hr ((c (.upP p)).imp And.left fun h => ⟨h.1, hroom (.upP p) h.2⟩) ((c (.dnP p)).imp And.left fun h => ⟨h.1, hroom (.dnP p) h.2⟩)
  have b3 := bes_moved (n := allS S.n S.m T) (g := S.all) hS.ha.2.1 hr ((c .upW).imp And.left fun h => ⟨h.1, hroom .upW h.2⟩) ((c .dnW).imp And.left fun h => ⟨h.1, hroom .dnW h.2⟩)
  unfold wrongS
  rw [all_moved h]
  rw [sumR_congr (f := fun o => bes (ownS S.m (moved S.m T (cnt out) r) o) (rgAt S.os o)) fun o ho => by rw [own_moved h T r ho]]
  rw [sumR_congr (f := fun o => bes (pckS S.n S.m (moved S.m T (cnt out) r) o) (rgAt S.ps o)) fun o ho => by rw [pck_moved h T r ho]]
  have s1 := sumR_le b1
  have s2 := sumR_le b2
  rw [sumR_add, sumR_mul] at s1 s2
  unfold byKind
  have s3 : (sumR S.n fun o => sumR S.m fun p => cnt out (.fw o p) * Kn.wr S T (.fw o p) + cnt out (.bk o p) * Kn.wr S T (.bk o p)) = 0 := sumR_zero' fun o _ => sumR_zero' fun p _ => by simp [Kn.wr]
  rw [s3, Int.add_zero, Int.mul_add, Int.mul_add]
  have e1 : (sumR S.n fun i => cnt out (.upO i) * Kn.wr S T (.upO i) + cnt out (.dnO i) * Kn.wr S T (.dnO i)) = sumR S.n fun o => cnt out (.upO o) * upWr (ownS S.m T o) (rgAt S.os o) + cnt out (.dnO o) * dnWr (ownS S.m T o) (rgAt S.os o) := rfl
  have e2 : (sumR S.m fun p => cnt out (.upP p) * Kn.wr S T (.upP p) + cnt out (.dnP p) * Kn.wr S T (.dnP p)) = sumR S.m fun p => cnt out (.upP p) * upWr (pckS S.n S.m T p) (rgAt S.ps p) + cnt out (.dnP p) * dnWr (pckS S.n S.m T p) (rgAt S.ps p) := rfl
  have e3 : cnt out .upW * Kn.wr S T .upW + cnt out .dnW * Kn.wr S T .dnW = cnt out .upW * upWr (allS S.n S.m T) S.all + cnt out .dnW * dnWr (allS S.n S.m T) S.all := rfl
  rw [e1, e2, e3]
  omega
def putW (w : Int) (r : Int × Int) : Int := if w = 1 then r.1 else if w = -1 then -r.2 else 0
structure Wts where
  wo : Nat → Int
  wp : Nat → Int
  wl : Int
def Wts.cell (W : Wts) (o p : Nat) : Int := W.wo o + W.wp p + W.wl
def cellB (w : Int) (r : Int × Int) : Int := min (-w * r.1) (-w * r.2)
def boundS (S : Sh) (W : Wts) : Int :=
  sumR S.n (fun o => putW (W.wo o) (rgAt S.os o)) + sumR S.m (fun p => putW (W.wp p) (rgAt S.ps p)) + putW W.wl S.all + sumR S.n fun o => sumR S.m fun p => cellB (W.cell o p) (rgAt S.cs (o * S.m + p))
def one3 (w : Int) : Prop := -1 ≤ w ∧ w ≤ 1
structure Wts.Ok (S : Sh) (W : Wts) : Prop where
  o : ∀ i, i < S.n → one3 (W.wo i)
  p : ∀ i, i < S.m → one3 (W.wp i)
  l : one3 W.wl
theorem put_le {w n : Int} {r : Int × Int} (hw : one3 w) : putW w r ≤ bes n r + w * n := by
  have : w = 1 ∨ w = 0 ∨ w = -1 := by unfold one3 at hw; omega
  unfold bes
  rcases this with rfl | rfl | rfl
  · simp only [putW, if_pos]; omega
  · rw [putW, if_neg (by omega), if_neg (by omega)]; omega
  · rw [putW, if_neg (by omega), if_pos rfl]; omega
theorem cell_le {w t : Int} {r : Int × Int} (h1 : r.1 ≤ t) (h2 : t ≤ r.2) : cellB w r ≤ -w * t := by
  unfold cellB
  by_cases h : 0 ≤ -w
  · have := Int.mul_le_mul_of_nonneg_left h1 h; omega
  · have := Int.mul_le_mul_of_nonneg_left h2 (show 0 ≤ w by omega)
    rw [Int.neg_mul, Int.neg_mul, Int.neg_mul]; omega
theorem weigh (S : Sh) (W : Wts) (T : Nat → Int) : (sumR S.n fun o => sumR S.m fun p => W.cell o p * T (o * S.m + p)) = sumR S.n (fun o => W.wo o * ownS S.m T o) + sumR S.m (fun p => W.wp p * pckS S.n S.m T p) + W.wl * allS S.n S.m T := by
  have e1 : ∀ o, o < S.n → (sumR S.m fun p => W.cell o p * T (o * S.m + p)) = W.wo o * ownS S.m T o + (sumR S.m fun p => W.wp p * T (o * S.m + p)) + W.wl * ownS S.m T o := by
    intro o _
    unfold ownS
    rw [← sumR_mul, ← sumR_mul, ← sumR_add, ← sumR_add]
    exact sumR_congr fun p _ => by unfold Wts.cell; rw [Int.add_mul, Int.add_mul]
  rw [sumR_congr e1, sumR_add, sumR_add, sumR_swap (fun o p => W.wp p * T (o * S.m + p)) S.m S.n]
  have e2 : (sumR S.m fun p => sumR S.n fun o => W.wp p * T (o * S.m + p)) = sumR S.m (fun p => W.wp p * pckS S.n S.m T p) := sumR_congr fun p _ => by unfold pckS; rw [sumR_mul]
  have e3 : (sumR S.n fun o => W.wl * ownS S.m T o) = W.wl * allS S.n S.m T := by unfold allS; rw [sumR_mul]
  rw [e2, e3]
theorem cell_lt (S : Sh) (hS : S.cs.length = S.n * S.m) {o p : Nat} (ho : o < S.n) (hp : p < S.m) : o * S.m + p < S.cs.length := by
  rw [hS]
  have : (o + 1) * S.m ≤ S.n * S.m := Nat.mul_le_mul_right _ ho
  rw [Nat.succ_mul] at this
  omega
theorem weak {S : Sh} (hS : S.Ok) {T : Nat → Int} (hT : InT S T) {W : Wts} (hW : W.Ok S) : boundS S W ≤ wrongS S T := by
  have h1 := sumR_le (n := S.n) fun o ho => put_le (n := ownS S.m T o) (r := rgAt S.os o) (hW.o o ho)
  have h2 := sumR_le (n := S.m) fun p hp => put_le (n := pckS S.n S.m T p) (r := rgAt S.ps p) (hW.p p hp)
  have h3 := put_le (n := allS S.n S.m T) (r := S.all) hW.l
  have h4 := sumR_le (n := S.n) (f := fun o => sumR S.m fun p => cellB (W.cell o p) (rgAt S.cs (o * S.m + p))) (g := fun o => sumR S.m fun p => - (W.cell o p * T (o * S.m + p))) fun o ho => sumR_le fun p hp => by
    have := hT _ (cell_lt S hS.len ho hp)
    have := cell_le (w := W.cell o p) this.1 this.2
    rwa [Int.neg_mul] at this
  rw [sumR_congr (g := fun o => - sumR S.m fun p => W.cell o p * T (o * S.m + p)) fun o _ => sumR_neg _ _, sumR_neg, weigh] at h4
  rw [sumR_add] at h1 h2
  unfold boundS wrongS
  omega
def wtsOf (far : Int × Int → Int) : Wts := ⟨fun o => far gateN - far (ownN' o), fun p => far (pckN p) - far boomN, far boomN - far gateN⟩
def Feas (S : Sh) (T : Nat → Int) (far : Int × Int → Int) : Prop := ∀ k : Kn, k.Is S → 0 < k.room S T → far k.to_ ≤ far k.fr + k.wr S T
theorem rm_pos (n : Int) (r : Int × Int) : 0 < upRm n r ∧ 0 < dnRm n r := by
  unfold upRm dnRm
  refine ⟨?_, ?_⟩
  · split
    · omega
    · split <;> omega
  · split
    · omega
    · split <;> omega
theorem tight {w n : Int} {r : Int × Int} (hr : r.1 ≤ r.2) (h1 : -upWr n r ≤ w) (h2 : w ≤ dnWr n r) : one3 w ∧ putW w r = bes n r + w * n := by
  have hw : one3 w := by
    unfold upWr at h1
    unfold dnWr at h2
    unfold one3
    split at h1 <;> split at h2 <;> (try split at h1) <;> (try split at h2) <;> omega
  refine ⟨hw, ?_⟩
  have : w = 1 ∨ w = 0 ∨ w = -1 := by unfold one3 at hw; omega
  unfold upWr at h1
  unfold dnWr at h2
  unfold bes
  rcases this with rfl | rfl | rfl
  · simp only [putW, if_pos]
    split at h2
    · omega
    · split at h2 <;> omega
  · rw [putW, if_neg (by omega), if_neg (by omega)]
    split at h1 <;> split at h2 <;> (try split at h1) <;> (try split at h2) <;> omega
  · rw [putW, if_neg (by omega), if_pos rfl]
    split at h1
    · omega
    · split at h1 <;> omega
theorem cell_tight {w t : Int} {r : Int × Int} (h1 : r.1 ≤ t) (h2 : t ≤ r.2) (h3 : t < r.2 → w ≤ 0) (h4 : r.1 < t → 0 ≤ w) : cellB w r = -w * t := by
  have hle := cell_le (w := w) h1 h2
  have : -w * t ≤ cellB w r := by
    unfold cellB
    rcases Int.lt_trichotomy w 0 with h | h | h
    · have e : t = r.1 := by omega
      have := Int.mul_le_mul_of_nonneg_left (show r.1 ≤ r.2 by omega) (show 0 ≤ -w by omega)
      rw [e]; omega
    · subst h; simp
    · have e : t = r.2 := by omega
      have := Int.mul_le_mul_of_nonneg_left (show r.1 ≤ r.2 by omega) (show 0 ≤ w by omega)
      rw [e, Int.neg_mul, Int.neg_mul]; omega
  omega
theorem strong {S : Sh} (hS : S.Ok) {T : Nat → Int} (hT : InT S T) {far : Int × Int → Int} (h : Feas S T far) : (wtsOf far).Ok S ∧ boundS S (wtsOf far) = wrongS S T := by
  have ho : ∀ o, o < S.n → one3 ((wtsOf far).wo o) ∧ putW ((wtsOf far).wo o) (rgAt S.os o) = bes (ownS S.m T o) (rgAt S.os o) + (wtsOf far).wo o * ownS S.m T o := by
    intro o hl
    have a1 := h (.upO o) hl (rm_pos _ _).1
    have a2 := h (.dnO o) hl (rm_pos _ _).2
    simp only [Kn.to_, Kn.fr, Kn.wr] at a1 a2
    refine tight (hS.ho o hl).2.1 ?_ ?_ <;> simp only [wtsOf] <;> omega
  have hp : ∀ p, p < S.m → one3 ((wtsOf far).wp p) ∧ putW ((wtsOf far).wp p) (rgAt S.ps p) = bes (pckS S.n S.m T p) (rgAt S.ps p) + (wtsOf far).wp p * pckS S.n S.m T p := by
    intro p hl
    have a1 := h (.upP p) hl (rm_pos _ _).1
    have a2 := h (.dnP p) hl (rm_pos _ _).2
    simp only [Kn.to_, Kn.fr, Kn.wr] at a1 a2
    refine tight (hS.hp p hl).2.1 ?_ ?_ <;> simp only [wtsOf] <;> omega
  have hl : one3 (wtsOf far).wl ∧ putW (wtsOf far).wl S.all = bes (allS S.n S.m T) S.all + (wtsOf far).wl * allS S.n S.m T := by
    have a1 := h .upW trivial (rm_pos _ _).1
    have a2 := h .dnW trivial (rm_pos _ _).2
    simp only [Kn.to_, Kn.fr, Kn.wr] at a1 a2
    refine tight hS.ha.2.1 ?_ ?_ <;> simp only [wtsOf] <;> omega
  refine ⟨⟨fun i hi => (ho i hi).1, fun i hi => (hp i hi).1, hl.1⟩, ?_⟩
  have hc : ∀ o, o < S.n → (sumR S.m fun p => cellB ((wtsOf far).cell o p) (rgAt S.cs (o * S.m + p))) = - sumR S.m fun p => (wtsOf far).cell o p * T (o * S.m + p) := by
    intro o ho
    rw [← sumR_neg]
    refine sumR_congr fun p hp => ?_
    have hb := hT _ (cell_lt S hS.len ho hp)
    have e : (wtsOf far).cell o p = far (pckN p) - far (ownN' o) := by simp only [Wts.cell, wtsOf]; omega
    rw [cell_tight hb.1 hb.2, Int.neg_mul]
    · intro hlt
      have a := h (.fw o p) ⟨ho, hp⟩ (by simp only [Kn.room]; omega)
      simp only [Kn.to_, Kn.fr, Kn.wr] at a
      omega
    · intro hlt
      have a := h (.bk o p) ⟨ho, hp⟩ (by simp only [Kn.room]; omega)
      simp only [Kn.to_, Kn.fr, Kn.wr] at a
      omega
  unfold boundS wrongS
  rw [sumR_congr fun o h => (ho o h).2, sumR_congr fun p h => (hp p h).2, hl.2, sumR_congr hc, sumR_neg, weigh, sumR_add, sumR_add]
  omega
structure Lk where
  fr : Int × Int
  to_ : Int × Int
  wr : Int
  room : Int
  cell : Int
  sgn : Int
deriving DecidableEq
def lk0 : Lk := ⟨(0, 0), (0, 0), 0, 0, 0, 0⟩
def bothL (f t : Int × Int) (n : Int) (r : Int × Int) : List Lk := [⟨f, t, upWr n r, upRm n r, -1, 0⟩, ⟨t, f, dnWr n r, dnRm n r, -1, 0⟩]
def linksL (S : Sh) (T : Nat → Int) : List Lk :=
  (((List.range S.n).flatMap fun i => bothL gateN (ownN' i) (ownS S.m T i) (rgAt S.os i)) ++ ((List.range S.m).flatMap fun p => bothL (pckN p) boomN (pckS S.n S.m T p) (rgAt S.ps p)) ++ bothL boomN gateN (allS S.n S.m T) S.all)
    ++ (List.range S.cs.length).flatMap fun i => [⟨ownN' (i / S.m), pckN (i % S.m), 0, (rgAt S.cs i).2 - T i, (i : Int), 1⟩, ⟨pckN (i % S.m), ownN' (i / S.m), 0, T i - (rgAt S.cs i).1, (i : Int), -1⟩]
def liveL (S : Sh) (T : Nat → Int) : List Lk := (linksL S T).filter fun x => decide (0 < x.room)
def Kn.cell (m : Nat) : Kn → Int
  | .fw o p => ((o * m + p : Nat) : Int) | .bk o p => ((o * m + p : Nat) : Int) | _ => -1
def Kn.sgn : Kn → Int
  | .fw _ _ => 1 | .bk _ _ => -1 | _ => 0
def lkOf (S : Sh) (T : Nat → Int) (k : Kn) : Lk := ⟨k.fr, k.to_, k.wr S T, k.room S T, k.cell S.m, k.sgn⟩
theorem links_kind {S : Sh} (hS : S.Ok) {T : Nat → Int} {x : Lk} : x ∈ linksL S T ↔ ∃ k : Kn, k.Is S ∧ lkOf S T k = x := by
  have hm := hS.m1
  constructor
  · intro h
    unfold linksL at h
    rw [List.mem_append, List.mem_append, List.mem_append] at h
    rcases h with ((h | h) | h) | h
    · obtain ⟨i, hi, h⟩ := List.mem_flatMap.1 h
      have hi := List.mem_range.1 hi
      rcases List.mem_cons.1 h with rfl | h
      · exact ⟨.upO i, hi, rfl⟩
      · rcases List.mem_cons.1 h with rfl | h
        · exact ⟨.dnO i, hi, rfl⟩
        · cases h
    · obtain ⟨i, hi, h⟩ := List.mem_flatMap.1 h
      have hi := List.mem_range.1 hi
      rcases List.mem_cons.1 h with rfl | h
      · exact ⟨.upP i, hi, rfl⟩
      · rcases List.mem_cons.1 h with rfl | h
        · exact ⟨.dnP i, hi, rfl⟩
        · cases h
    · rcases List.mem_cons.1 h with rfl | h
      · exact ⟨.upW, trivial, rfl⟩
      · rcases List.mem_cons.1 h with rfl | h
        · exact ⟨.dnW, trivial, rfl⟩
        · cases h
    · obtain ⟨i, hi, h⟩ := List.mem_flatMap.1 h
      have hi := List.mem_range.1 hi
      have e : (i / S.m) * S.m + i % S.m = i := by rw [Nat.mul_comm]; exact Nat.div_add_mod _ _
      have h1 : i / S.m < S.n := Nat.div_lt_of_lt_mul (by rw [Nat.mul_comm, ← hS.len]; exact hi)
      have h2 : i % S.m < S.m := Nat.mod_lt _ hm
      rcases List.mem_cons.1 h with rfl | h
      · refine ⟨.fw (i / S.m) (i % S.m), ⟨h1, h2⟩, ?_⟩
        simp only [lkOf, Kn.fr, Kn.to_, Kn.wr, Kn.room, Kn.cell, Kn.sgn, e]
      · rcases List.mem_cons.1 h with rfl | h
        · refine ⟨.bk (i / S.m) (i % S.m), ⟨h1, h2⟩, ?_⟩
          simp only [lkOf, Kn.fr, Kn.to_, Kn.wr, Kn.room, Kn.cell, Kn.sgn, e]
        · cases h
  · rintro ⟨k, hk, rfl⟩
    unfold linksL
    rw [List.mem_append, List.mem_append, List.mem_append]
    cases k with
    | upO i => exact .inl (.inl (.inl (List.mem_flatMap.2 ⟨i, List.mem_range.2 hk, List.mem_cons_self⟩)))
    | dnO i => exact .inl (.inl (.inl (List.mem_flatMap.2 ⟨i, List.mem_range.2 hk, List.mem_cons_of_mem _ List.mem_cons_self⟩)))
    | upP i => exact .inl (.inl (.inr (List.mem_flatMap.2 ⟨i, List.mem_range.2 hk, List.mem_cons_self⟩)))
    | dnP i => exact .inl (.inl (.inr (List.mem_flatMap.2 ⟨i, List.mem_range.2 hk, List.mem_cons_of_mem _ List.mem_cons_self⟩)))
    | upW => exact .inl (.inr List.mem_cons_self)
    | dnW => exact .inl (.inr (List.mem_cons_of_mem _ List.mem_cons_self))
    | fw o p =>
      have h1 : (o * S.m + p) / S.m = o := by rw [Nat.add_comm, Nat.add_mul_div_right _ _ hm, Nat.div_eq_of_lt hk.2, Nat.zero_add]
      have h2 : (o * S.m + p) % S.m = p := by rw [Nat.add_comm, Nat.add_mul_mod_self_right, Nat.mod_eq_of_lt hk.2]
      refine .inr (List.mem_flatMap.2 ⟨o * S.m + p, List.mem_range.2 (cell_lt S hS.len hk.1 hk.2), ?_⟩)
      rw [h1, h2]
      exact List.mem_cons_self
    | bk o p =>
      have h1 : (o * S.m + p) / S.m = o := by rw [Nat.add_comm, Nat.add_mul_div_right _ _ hm, Nat.div_eq_of_lt hk.2, Nat.zero_add]
      have h2 : (o * S.m + p) % S.m = p := by rw [Nat.add_comm, Nat.add_mul_mod_self_right, Nat.mod_eq_of_lt hk.2]
      refine .inr (List.mem_flatMap.2 ⟨o * S.m + p, List.mem_range.2 (cell_lt S hS.len hk.1 hk.2), ?_⟩)
      rw [h1, h2]
      exact List.mem_cons_of_mem _ List.mem_cons_self
theorem live_kind {S : Sh} (hS : S.Ok) {T : Nat → Int} {x : Lk} : x ∈ liveL S T ↔ ∃ k : Kn, k.Is S ∧ 0 < k.room S T ∧ lkOf S T k = x := by
  unfold liveL
  rw [List.mem_filter, links_kind hS, decide_eq_true_iff]
  constructor
  · rintro ⟨⟨k, hk, rfl⟩, h⟩; exact ⟨k, hk, h, rfl⟩
  · rintro ⟨k, hk, h, rfl⟩; exact ⟨⟨k, hk, rfl⟩, h⟩
theorem kinds_of {S : Sh} (hS : S.Ok) {T : Nat → Int} : ∀ {out : List Lk}, (∀ x ∈ out, x ∈ liveL S T) → ∃ ks : List Kn, ks.map (lkOf S T) = out ∧ ∀ k ∈ ks, k.Is S ∧ 0 < k.room S T
  | [], _ => ⟨[], rfl, fun k hk => by cases hk⟩
  | x :: out, h => by
    obtain ⟨ks, e, hk⟩ := kinds_of hS (out := out) fun y hy => h y (by simp [hy])
    obtain ⟨k, h1, h2, h3⟩ := (live_kind hS).1 (h x (by simp))
    refine ⟨k :: ks, by rw [List.map_cons, h3, e], fun j hj => ?_⟩
    rcases List.mem_cons.1 hj with rfl | hj
    · exact ⟨h1, h2⟩
    · exact hk j hj
def roomOf (l : List Lk) : Int := l.foldl (fun r x => if x.room < r then x.room else r) 1099511627776
theorem room_fold : ∀ (l : List Lk) (r : Int), 1 ≤ r → (∀ x ∈ l, 1 ≤ x.room) → 1 ≤ l.foldl (fun r x => if x.room < r then x.room else r) r ∧ l.foldl (fun r x => if x.room < r then x.room else r) r ≤ r ∧ ∀ x ∈ l, l.foldl (fun r x => if x.room < r then x.room else r) r ≤ x.room
  | [], r, h, _ => ⟨h, Int.le_refl _, fun x hx => by cases hx⟩
  | y :: l, r, h, hl => by
    rw [List.foldl_cons]
    have hy := hl y (by simp)
    obtain ⟨q, hq⟩ : ∃ q, q = if y.room < r then y.room else r := ⟨_, rfl⟩
    have hq2 : q ≤ r ∧ q ≤ y.room ∧ 1 ≤ q := by rw [hq]; split <;> omega
    rw [← hq]
    obtain ⟨h1, h2, h3⟩ := room_fold l q hq2.2.2 fun x hx => hl x (by simp [hx])
    refine ⟨h1, by omega, fun x hx => ?_⟩
    rcases List.mem_cons.1 hx with rfl | hx
    · omega
    · exact h3 x hx
def chg (r : Int) (t : List Int) (x : Lk) : List Int := if x.cell = -1 then t else t.set x.cell.toNat (tat t x.cell.toNat + x.sgn * r)
def changeL (t : List Int) (l : List Lk) : List Int := l.foldl (chg (roomOf l)) t
theorem chg_length (r : Int) (t : List Int) (x : Lk) : (chg r t x).length = t.length := by unfold chg; split <;> simp
theorem chg_cell {r : Int} {t : List Int} {x : Lk} {j : Nat} (h : x.cell = (j : Int)) : chg r t x = t.set j (tat t j + x.sgn * r) := by
  unfold chg
  rw [if_neg (by rw [h]; omega), h, Int.toNat_natCast]
theorem chg_none {r : Int} {t : List Int} {x : Lk} (h : x.cell = -1) : chg r t x = t := if_pos h
theorem fold_length (r : Int) : ∀ (l : List Lk) (t : List Int), (l.foldl (chg r) t).length = t.length
  | [], _ => rfl
  | x :: l, t => by rw [List.foldl_cons, fold_length r l, chg_length]
theorem tat_set (t : List Int) (i j : Nat) (v : Int) (hi : i < t.length) : tat (t.set i v) j = if i = j then v else tat t j := by
  unfold tat
  rw [List.getD_eq_getElem?_getD, List.getD_eq_getElem?_getD, List.getElem?_set]
  split
  · rename_i e; subst e; simp [hi]
  · rfl
theorem chg_at {S : Sh} (hS : S.Ok) (T : Nat → Int) (r : Int) : ∀ (ks : List Kn) (t : List Int), (∀ k ∈ ks, k.Is S) → t.length = S.cs.length → ∀ o p, o < S.n → p < S.m →
    tat ((ks.map (lkOf S T)).foldl (chg r) t) (o * S.m + p) = tat t (o * S.m + p) + r * (cnt ks (.fw o p) - cnt ks (.bk o p))
  | [], t, _, _, o, p, _, _ => by simp [cnt]
  | k :: ks, t, hk, ht, o, p, ho, hp => by
    have hm := hS.m1
    rw [List.map_cons, List.foldl_cons, chg_at hS T r ks _ (fun k h => hk k (by simp [h])) (by rw [chg_length]; exact ht) o p ho hp]
    have hck := hk k (by simp)
    have inj : ∀ {a b : Nat}, b < S.m → a * S.m + b = o * S.m + p → a = o ∧ b = p := by
      intro a b hb e
      have h1 : (a * S.m + b) / S.m = a := by rw [Nat.add_comm, Nat.add_mul_div_right _ _ (by omega), Nat.div_eq_of_lt hb, Nat.zero_add]
      have h2 : (o * S.m + p) / S.m = o := by rw [Nat.add_comm, Nat.add_mul_div_right _ _ (by omega), Nat.div_eq_of_lt hp, Nat.zero_add]
      have h3 : (a * S.m + b) % S.m = b := by rw [Nat.add_comm, Nat.add_mul_mod_self_right, Nat.mod_eq_of_lt hb]
      have h4 : (o * S.m + p) % S.m = p := by rw [Nat.add_comm, Nat.add_mul_mod_self_right, Nat.mod_eq_of_lt hp]
      rw [e] at h1 h3
      exact ⟨h1.symm.trans h2, h3.symm.trans h4⟩
    have c1 : ∀ y : Kn, cnt (k :: ks) y = cnt ks y + if k = y then 1 else 0 := by
      intro y
      unfold cnt
      rw [List.count_cons]
      by_cases e : k = y
      · subst e; simp
      · simp [e]
    rw [c1, c1]
    cases k with
    | fw a b =>
      have hlt := cell_lt S hS.len hck.1 hck.2
      have hcc := chg_cell (r := r) (t := t) (x := lkOf S T (.fw a b)) (j := a * S.m + b) rfl
      have hsg : (lkOf S T (.fw a b)).sgn = 1 := rfl
      rw [hsg] at hcc
      rw [hcc, tat_set _ _ _ _ (by rw [ht]; exact hlt)]
      by_cases e : a * S.m + b = o * S.m + p
      · obtain ⟨rfl, rfl⟩ := inj hck.2 e
        rw [if_pos rfl, if_pos rfl, if_neg (by intro h; cases h), Int.one_mul, show cnt ks (.fw a b) + 1 - (cnt ks (.bk a b) + 0) = (cnt ks (.fw a b) - cnt ks (.bk a b)) + 1 by omega, Int.mul_add, Int.mul_one]
        omega
      · rw [if_neg e, if_neg (by intro h; injection h with h1 h2; exact e (by rw [h1, h2])), if_neg (by intro h; cases h), Int.add_zero, Int.add_zero]
    | bk a b =>
      have hlt := cell_lt S hS.len hck.1 hck.2
      have hcc := chg_cell (r := r) (t := t) (x := lkOf S T (.bk a b)) (j := a * S.m + b) rfl
      have hsg : (lkOf S T (.bk a b)).sgn = -1 := rfl
      rw [hsg] at hcc
      rw [hcc, tat_set _ _ _ _ (by rw [ht]; exact hlt)]
      by_cases e : a * S.m + b = o * S.m + p
      · obtain ⟨rfl, rfl⟩ := inj hck.2 e
        rw [if_pos rfl, if_pos rfl, if_neg (by intro h; cases h), show cnt ks (.fw a b) + 0 - (cnt ks (.bk a b) + 1) = (cnt ks (.fw a b) - cnt ks (.bk a b)) - 1 by omega, Int.mul_sub r _ 1, Int.mul_one, Int.neg_one_mul]
        omega
      · rw [if_neg e, if_neg (by intro h; cases h), if_neg (by intro h; injection h with h1 h2; exact e (by rw [h1, h2])), Int.add_zero, Int.add_zero]
    | upO i => rw [chg_none rfl]; simp
    | dnO i => rw [chg_none rfl]; simp
    | upP i => rw [chg_none rfl]; simp
    | dnP i => rw [chg_none rfl]; simp
    | upW => rw [chg_none rfl]; simp
    | dnW => rw [chg_none rfl]; simp
def InL (S : Sh) (t : List Int) : Prop := t.length = S.cs.length ∧ InT S (tat t)
theorem ownS_congr {S : Sh} (hS : S.Ok) {T U : Nat → Int} (h : ∀ i, i < S.cs.length → T i = U i) {o : Nat} (ho : o < S.n) : ownS S.m T o = ownS S.m U o := sumR_congr fun _ hp => h _ (cell_lt S hS.len ho hp)
theorem pckS_congr {S : Sh} (hS : S.Ok) {T U : Nat → Int} (h : ∀ i, i < S.cs.length → T i = U i) {p : Nat} (hp : p < S.m) : pckS S.n S.m T p = pckS S.n S.m U p := sumR_congr fun _ ho => h _ (cell_lt S hS.len ho hp)
theorem allS_congr {S : Sh} (hS : S.Ok) {T U : Nat → Int} (h : ∀ i, i < S.cs.length → T i = U i) : allS S.n S.m T = allS S.n S.m U := sumR_congr fun _ ho => ownS_congr hS h ho
theorem wrongS_congr {S : Sh} (hS : S.Ok) {T U : Nat → Int} (h : ∀ i, i < S.cs.length → T i = U i) : wrongS S T = wrongS S U := by
  unfold wrongS
  rw [allS_congr hS h, sumR_congr fun o ho => by rw [ownS_congr hS h ho], sumR_congr (n := S.m) fun p hp => by rw [pckS_congr hS h hp]]
theorem change_circ {S : Sh} (hS : S.Ok) {t : List Int} (ht : InL S t) {ks : List Kn} (hc : Circ S ks) (hroom : ∀ k ∈ ks, 0 < k.room S (tat t)) :
    InL S (changeL t (ks.map (lkOf S (tat t)))) ∧ 1 ≤ roomOf (ks.map (lkOf S (tat t))) ∧ (∀ k ∈ ks, roomOf (ks.map (lkOf S (tat t))) ≤ k.room S (tat t)) ∧
      wrongS S (tat (changeL t (ks.map (lkOf S (tat t))))) ≤ wrongS S (tat t) + roomOf (ks.map (lkOf S (tat t))) * (ks.map (Kn.wr S (tat t))).sum ∧
      ∀ i, i < S.cs.length → tat (changeL t (ks.map (lkOf S (tat t)))) i = moved S.m (tat t) (cnt ks) (roomOf (ks.map (lkOf S (tat t)))) i := by
  obtain ⟨h1, -, h3⟩ := room_fold (ks.map (lkOf S (tat t))) 1099511627776 (by omega) (by
    intro x hx
    obtain ⟨k, hk, rfl⟩ := List.mem_map.1 hx
    have := hroom k hk
    simp only [lkOf]; omega)
  have hr : ∀ k ∈ ks, roomOf (ks.map (lkOf S (tat t))) ≤ k.room S (tat t) := fun k hk => h3 (lkOf S (tat t) k) (List.mem_map.2 ⟨k, hk, rfl⟩)
  have h1 : 1 ≤ roomOf (ks.map (lkOf S (tat t))) := h1
  have e : ∀ i, i < S.cs.length → tat (changeL t (ks.map (lkOf S (tat t)))) i = moved S.m (tat t) (cnt ks) (roomOf (ks.map (lkOf S (tat t)))) i := by
    intro i hi
    have hm := hS.m1
    have he : (i / S.m) * S.m + i % S.m = i := by rw [Nat.mul_comm]; exact Nat.div_add_mod _ _
    have g1 : i / S.m < S.n := Nat.div_lt_of_lt_mul (by rw [Nat.mul_comm, ← hS.len]; exact hi)
    have g2 : i % S.m < S.m := Nat.mod_lt _ hm
    have := chg_at hS (tat t) (roomOf (ks.map (lkOf S (tat t)))) ks t hc.is ht.1 _ _ g1 g2
    rw [he] at this
    exact this
  refine ⟨⟨by rw [changeL, fold_length]; exact ht.1, fun i hi => ?_⟩, h1, hr, ?_, e⟩
  · rw [e i hi]
    exact in_moved hS hc ht.2 (by omega) hr i hi
  · rw [wrongS_congr hS e]
    exact wrong_moved hS hc (by omega) hr
def bf0 : Bf (Int × Int) Lk := ⟨fun _ => 0, fun _ => none, (0, 0), 0⟩
def manyS (S : Sh) : Nat := S.n + S.m + 2
def findS (S : Sh) (t : List Int) : Bool × Bf (Int × Int) Lk := searchB Lk.fr Lk.to_ Lk.wr (liveL S (tat t)) (manyS S) bf0
def circleS (S : Sh) (t : List Int) : List Lk :=
  if (findS S t).1 then [] else collect Lk.fr (0, 0) lk0 (findS S t).2.bef (manyS S) (backs Lk.fr (0, 0) (findS S t).2.bef (findS S t).2.at_ (manyS S)) (manyS S + 1) (backs Lk.fr (0, 0) (findS S t).2.bef (findS S t).2.at_ (manyS S)) []
def nodesS (S : Sh) : List (Int × Int) := gateN :: boomN :: ((List.range S.n).map ownN' ++ (List.range S.m).map pckN)
theorem live_apart {S : Sh} (hS : S.Ok) {T : Nat → Int} : ∀ x ∈ liveL S T, x.fr ≠ x.to_ := by
  intro x hx
  obtain ⟨k, -, -, rfl⟩ := (live_kind hS).1 hx
  cases k <;> simp [lkOf, Kn.fr, Kn.to_, gateN, boomN, ownN', pckN]
theorem live_nodes {S : Sh} (hS : S.Ok) {T : Nat → Int} : ∀ x ∈ liveL S T, x.to_ ∈ nodesS S := by
  intro x hx
  obtain ⟨k, hk, -, rfl⟩ := (live_kind hS).1 hx
  unfold nodesS
  cases k with
  | upO i => exact List.mem_cons_of_mem _ (List.mem_cons_of_mem _ (List.mem_append.2 (.inl (List.mem_map.2 ⟨i, List.mem_range.2 hk, rfl⟩))))
  | dnO i => exact List.mem_cons_self
  | upP i => exact List.mem_cons_of_mem _ List.mem_cons_self
  | dnP i => exact List.mem_cons_of_mem _ (List.mem_cons_of_mem _ (List.mem_append.2 (.inr (List.mem_map.2 ⟨i, List.mem_range.2 hk, rfl⟩))))
  | upW => exact List.mem_cons_self
  | dnW => exact List.mem_cons_of_mem _ List.mem_cons_self
  | fw o p => exact List.mem_cons_of_mem _ (List.mem_cons_of_mem _ (List.mem_append.2 (.inr (List.mem_map.2 ⟨p, List.mem_range.2 hk.2, rfl⟩))))
  | bk o p => exact List.mem_cons_of_mem _ (List.mem_cons_of_mem _ (List.mem_append.2 (.inl (List.mem_map.2 ⟨o, List.mem_range.2 hk.1, rfl⟩))))
theorem bk_neg (T : Nat → Int) (S : Sh) : ∀ ks : List Kn, (ks.map (lkOf S T)).map Lk.wr = ks.map (Kn.wr S T) := fun ks => by rw [List.map_map]; rfl
theorem circ_kinds {S : Sh} {T : Nat → Int} {ks : List Kn} (his : ∀ k ∈ ks, k.Is S) (hn : ((ks.map (lkOf S T)).map Lk.to_).Nodup) (hnet : ∀ φ : Int × Int → Int, ((ks.map (lkOf S T)).map fun x => φ x.to_ - φ x.fr).sum = 0) : Circ S ks := by
  refine ⟨his, ?_, fun φ => ?_⟩
  · rw [List.map_map, List.Nodup, List.pairwise_map] at hn
    exact hn.imp fun h e => h (by rw [e])
  · have := hnet φ
    rw [List.map_map] at this
    exact this
theorem circle_some {S : Sh} (hS : S.Ok) {t : List Int} (h : circleS S t ≠ []) : ∃ ks : List Kn, ks.map (lkOf S (tat t)) = circleS S t ∧ Circ S ks ∧ (∀ k ∈ ks, 0 < k.room S (tat t)) ∧ (ks.map (Kn.wr S (tat t))).sum < 0 := by
  unfold circleS at h ⊢
  cases hf : findS S t with
  | mk b s =>
    rw [hf] at h
    cases b with
    | true => exact absurd rfl h
    | false =>
      have hc := search_circle (fr := Lk.fr) (to_ := Lk.to_) (wr := Lk.wr) (live_apart hS) (nodesS S) (live_nodes hS) (manyS S) (by simp [nodesS, manyS]) (0, 0) (0, 0) lk0 s hf (k := manyS S + 1) (by omega)
      simp only [Bool.false_eq_true, if_false]
      obtain ⟨ks, e, hk⟩ := kinds_of hS hc.sub
      rw [← e] at hc ⊢
      refine ⟨ks, rfl, circ_kinds (fun k h => (hk k h).1) hc.nodup hc.net, fun k h => (hk k h).2, ?_⟩
      rw [← bk_neg]
      exact hc.neg
theorem circle_none {S : Sh} (hS : S.Ok) {t : List Int} (h : circleS S t = []) : Feas S (tat t) (findS S t).2.far := by
  unfold circleS at h
  cases hf : findS S t with
  | mk b s =>
    rw [hf] at h
    cases b with
    | true =>
      intro k hk hr
      exact search_still _ _ _ _ _ _ _ hf (lkOf S (tat t) k) ((live_kind hS).2 ⟨k, hk, hr, rfl⟩)
    | false =>
      have hc := search_circle (fr := Lk.fr) (to_ := Lk.to_) (wr := Lk.wr) (live_apart hS) (nodesS S) (live_nodes hS) (manyS S) (by simp [nodesS, manyS]) (0, 0) (0, 0) lk0 s hf (k := manyS S + 1) (by omega)
      exact absurd h hc.some_
def mendL (S : Sh) : Nat → List Int → List Int
  | 0, t => t
  | k + 1, t => if circleS S t = [] then t else mendL S k (changeL t (circleS S t))
def leastT (S : Sh) : List Int := S.cs.map Prod.fst
theorem least_at (S : Sh) (i : Nat) : tat (leastT S) i = (rgAt S.cs i).1 := by
  unfold tat leastT rgAt
  rw [List.getD_eq_getElem?_getD, List.getD_eq_getElem?_getD, List.getElem?_map]
  cases S.cs[i]? <;> rfl
theorem least_in {S : Sh} (hS : S.Ok) : InL S (leastT S) := by
  refine ⟨by simp [leastT], fun i hi => ?_⟩
  rw [least_at]
  have := hS.hc i hi
  exact ⟨Int.le_refl _, this.2.1⟩
theorem bes_low {a b : Int} {r : Int × Int} (h0 : 0 ≤ a) (h : a ≤ b) (hr : RgOk r) : bes a r ≤ bes b r + 1000 := by unfold bes RgOk at *; omega
theorem sumR_k (k : Int) : ∀ n : Nat, sumR n (fun _ => k) = (n : Int) * k
  | 0 => by simp [sumR_zero]
  | n + 1 => by rw [sumR_succ, sumR_k k n]; rw [Int.natCast_succ, Int.add_mul, Int.one_mul]
theorem wrong_low {S : Sh} (hS : S.Ok) {T : Nat → Int} (hT : InT S T) : wrongS S (tat (leastT S)) ≤ wrongS S T + 11000 := by
  have hc : ∀ i, i < S.cs.length → tat (leastT S) i ≤ T i := fun i hi => by rw [least_at]; exact (hT i hi).1
  have ho : ∀ o, o < S.n → ownS S.m (tat (leastT S)) o ≤ ownS S.m T o := fun o ho => sumR_le fun p hp => hc _ (cell_lt S hS.len ho hp)
  have hp : ∀ p, p < S.m → pckS S.n S.m (tat (leastT S)) p ≤ pckS S.n S.m T p := fun p hp => sumR_le fun o ho => hc _ (cell_lt S hS.len ho hp)
  have ha : allS S.n S.m (tat (leastT S)) ≤ allS S.n S.m T := sumR_le ho
  have z0 : ∀ i, i < S.cs.length → 0 ≤ tat (leastT S) i := fun i hi => by rw [least_at]; exact (hS.hc i hi).1
  have s0 : ∀ {n : Nat} {f : Nat → Int}, (∀ i, i < n → 0 ≤ f i) → 0 ≤ sumR n f := fun {n f} h => by
    have := sumR_le (f := fun _ => 0) (g := f) (n := n) h
    rwa [sumR_const0] at this
  have zo : ∀ o, o < S.n → 0 ≤ ownS S.m (tat (leastT S)) o := fun o ho => s0 fun p hp => z0 _ (cell_lt S hS.len ho hp)
  have zp : ∀ p, p < S.m → 0 ≤ pckS S.n S.m (tat (leastT S)) p := fun p hp => s0 fun o ho => z0 _ (cell_lt S hS.len ho hp)
  have za : 0 ≤ allS S.n S.m (tat (leastT S)) := s0 zo
  have h1 := sumR_le (f := fun o => bes (ownS S.m (tat (leastT S)) o) (rgAt S.os o)) (g := fun o => bes (ownS S.m T o) (rgAt S.os o) + 1000) fun o h => bes_low (zo o h) (ho o h) (hS.ho o h)
  have h2 := sumR_le (f := fun p => bes (pckS S.n S.m (tat (leastT S)) p) (rgAt S.ps p)) (g := fun p => bes (pckS S.n S.m T p) (rgAt S.ps p) + 1000) fun p h => bes_low (zp p h) (hp p h) (hS.hp p h)
  have h3 := bes_low za ha hS.ha
  rw [sumR_add, sumR_k] at h1 h2
  have n5 : S.n ≤ 5 := hS.n5
  have m5 : S.m ≤ 5 := hS.m5
  unfold wrongS
  omega
theorem mend_ends {S : Sh} (hS : S.Ok) : ∀ (k : Nat) (t : List Int), InL S t → wrongS S (tat t) + 11000 < wrongS S (tat (leastT S)) + k → InL S (mendL S k t) ∧ circleS S (mendL S k t) = []
  | 0, t, ht, hk => by
    have := wrong_low hS ht.2
    omega
  | k + 1, t, ht, hk => by
    rw [mendL]
    by_cases h : circleS S t = []
    · rw [if_pos h]; exact ⟨ht, h⟩
    · rw [if_neg h]
      obtain ⟨ks, e, hc, hr, hn⟩ := circle_some hS h
      obtain ⟨h1, h2, -, h4, -⟩ := change_circ hS ht hc hr
      rw [← e]
      refine mend_ends hS k _ h1 ?_
      have : roomOf (ks.map (lkOf S (tat t))) * (ks.map (Kn.wr S (tat t))).sum ≤ 1 * -1 := by
        have h5 : roomOf (ks.map (lkOf S (tat t))) * (ks.map (Kn.wr S (tat t))).sum ≤ roomOf (ks.map (lkOf S (tat t))) * -1 := Int.mul_le_mul_of_nonneg_left (by omega) (by omega)
        omega
      omega
def bestT (S : Sh) : List Int := mendL S 20000 (leastT S)
theorem best_in {S : Sh} (hS : S.Ok) : InL S (bestT S) := (mend_ends hS 20000 _ (least_in hS) (by omega)).1
theorem best_feas {S : Sh} (hS : S.Ok) : Feas S (tat (bestT S)) (findS S (bestT S)).2.far := circle_none hS (mend_ends hS 20000 _ (least_in hS) (by omega)).2
def bestW (S : Sh) : Wts := wtsOf (findS S (bestT S)).2.far
theorem best_w {S : Sh} (hS : S.Ok) : (bestW S).Ok S ∧ boundS S (bestW S) = wrongS S (tat (bestT S)) := strong hS (best_in hS).2 (best_feas hS)
def offS (S : Sh) : Int := wrongS S (tat (bestT S))
theorem off_le {S : Sh} (hS : S.Ok) {T : Nat → Int} (hT : InT S T) : offS S ≤ wrongS S T := by
  have h := best_w hS
  have := weak hS hT h.1
  unfold offS; omega
theorem le_off {S : Sh} (hS : S.Ok) {W : Wts} (hW : W.Ok S) : boundS S W ≤ offS S := weak hS (best_in hS).2 hW
section
variable {N L : Type} [DecidableEq N]
structure Sr (N L : Type) where
  bef : N → Option L
  moved : Nat
variable (fr to_ : L → N)
def reachS (s : Sr N L) (x : L) : Sr N L := if (s.bef (fr x)).isSome && !(s.bef (to_ x)).isSome then ⟨upd s.bef (to_ x) (some x), s.moved + 1⟩ else s
def roundS (ls : List L) (s : Sr N L) : Sr N L := ls.foldl (reachS fr to_) ⟨s.bef, 0⟩
def floodS (ls : List L) : Nat → Sr N L → Sr N L
  | 0, s => s
  | k + 1, s => if (roundS fr to_ ls s).moved = 0 then roundS fr to_ ls s else floodS ls k (roundS fr to_ ls s)
theorem reach_moved (ls : List L) : ∀ s : Sr N L, s.moved ≤ (ls.foldl (reachS fr to_) s).moved := by
  induction ls with
  | nil => intro s; exact Nat.le_refl _
  | cons x ls ih =>
    intro s
    refine Nat.le_trans ?_ (ih _)
    unfold reachS
    split
    · exact Nat.le_succ _
    · exact Nat.le_refl _
theorem stillS (ls : List L) : ∀ s : Sr N L, (ls.foldl (reachS fr to_) s).moved = s.moved → ls.foldl (reachS fr to_) s = s ∧ ∀ x ∈ ls, (s.bef (fr x)).isSome = true → (s.bef (to_ x)).isSome = true := by
  induction ls with
  | nil => intro s _; exact ⟨rfl, fun x hx => by cases hx⟩
  | cons x ls ih =>
    intro s h
    rw [List.foldl_cons] at h ⊢
    by_cases g : ((s.bef (fr x)).isSome && !(s.bef (to_ x)).isSome) = true
    · have h1 := reach_moved fr to_ ls (reachS fr to_ s x)
      rw [reachS, if_pos g] at h1 h
      simp only at h1
      omega
    · have e : reachS fr to_ s x = s := if_neg g
      rw [e] at h ⊢
      obtain ⟨h1, h2⟩ := ih s h
      refine ⟨h1, fun y hy hs => ?_⟩
      rcases List.mem_cons.1 hy with rfl | hy
      · cases hb : (s.bef (to_ y)).isSome
        · rw [hs, hb] at g; exact absurd rfl g
        · rfl
      · exact h2 y hy hs
structure SrInv (ls : List L) (src : N) (nodes : List N) (s : Sr N L) (D : List N) (T : N → Nat) : Prop where
  nd : D.Nodup
  mem : ∀ v, v ∈ D ↔ (s.bef v).isSome = true
  sub : ∀ v, v ∈ D → v ∈ nodes
  src_ : (s.bef src).isSome = true
  bf : ∀ v x, s.bef v = some x → v ≠ src → x ∈ ls ∧ to_ x = v ∧ (s.bef (fr x)).isSome = true ∧ T (fr x) < T v
  lt : ∀ v, v ∈ D → T v < D.length
variable {fr to_}
theorem srInv_step {ls : List L} {src : N} {nodes : List N} (hnodes : ∀ x ∈ ls, to_ x ∈ nodes) {s : Sr N L} {D : List N} {T : N → Nat} (h : SrInv fr to_ ls src nodes s D T) {x : L} (hx : x ∈ ls) :
    ∃ D' T', SrInv fr to_ ls src nodes (reachS fr to_ s x) D' T' ∧ D'.length + s.moved = D.length + (reachS fr to_ s x).moved := by
  by_cases g : ((s.bef (fr x)).isSome && !(s.bef (to_ x)).isSome) = true
  · have e : reachS fr to_ s x = ⟨upd s.bef (to_ x) (some x), s.moved + 1⟩ := if_pos g
    simp only [Bool.and_eq_true, Bool.not_eq_true'] at g
    obtain ⟨g1, g2⟩ := g
    have hnew : to_ x ∉ D := fun hm => by rw [(h.mem _).1 hm] at g2; cases g2
    have hold : fr x ∈ D := (h.mem _).2 g1
    have hne : fr x ≠ to_ x := fun e => hnew (e ▸ hold)
    refine ⟨to_ x :: D, upd T (to_ x) D.length, ?_, by rw [e]; simp; omega⟩
    rw [e]
    refine ⟨List.nodup_cons.2 ⟨hnew, h.nd⟩, fun v => ?_, fun v hv => ?_, ?_, fun v y hy hv => ?_, fun v hv => ?_⟩
    · simp only
      by_cases hv : v = to_ x
      · subst hv; rw [upd_same]; simp
      · rw [upd_other _ _ hv, ← h.mem v]; simp [hv]
    · rcases List.mem_cons.1 hv with rfl | hv
      · exact hnodes x hx
      · exact h.sub v hv
    · simp only
      by_cases hv : src = to_ x
      · rw [hv, upd_same]; rfl
      · rw [upd_other _ _ hv]; exact h.src_
    · simp only at hy ⊢
      by_cases hvx : v = to_ x
      · subst hvx
        rw [upd_same] at hy
        cases hy
        rw [upd_same, upd_other _ _ hne, upd_other _ _ hne]
        exact ⟨hx, rfl, g1, h.lt _ hold⟩
      · rw [upd_other _ _ hvx] at hy
        obtain ⟨h1, h2, h3, h4⟩ := h.bf v y hy hv
        have h5 : fr y ≠ to_ x := fun e => hnew ((h.mem _).2 (by rw [← e]; exact h3))
        rw [upd_other _ _ h5, upd_other _ _ h5, upd_other _ _ hvx]
        exact ⟨h1, h2, h3, h4⟩
    · rw [List.length_cons]
      by_cases hvx : v = to_ x
      · subst hvx; rw [upd_same]; omega
      · rw [upd_other _ _ hvx]
        rcases List.mem_cons.1 hv with e | hv
        · exact absurd e hvx
        · have := h.lt v hv; omega
  · have e : reachS fr to_ s x = s := if_neg g
    exact ⟨D, T, by rw [e]; exact h, by rw [e]⟩
theorem srInv_fold {ls : List L} {src : N} {nodes : List N} (hnodes : ∀ x ∈ ls, to_ x ∈ nodes) : ∀ (Q : List L) (s : Sr N L) (D : List N) (T : N → Nat), (∀ x ∈ Q, x ∈ ls) → SrInv fr to_ ls src nodes s D T →
    ∃ D' T', SrInv fr to_ ls src nodes (Q.foldl (reachS fr to_) s) D' T' ∧ D'.length + s.moved = D.length + (Q.foldl (reachS fr to_) s).moved
  | [], s, D, T, _, h => ⟨D, T, h, rfl⟩
  | x :: Q, s, D, T, hQ, h => by
    obtain ⟨D1, T1, h1, e1⟩ := srInv_step hnodes h (hQ x (by simp))
    obtain ⟨D2, T2, h2, e2⟩ := srInv_fold hnodes Q _ D1 T1 (fun y hy => hQ y (by simp [hy])) h1
    exact ⟨D2, T2, h2, by rw [List.foldl_cons]; omega⟩
theorem srInv_round {ls : List L} {src : N} {nodes : List N} (hnodes : ∀ x ∈ ls, to_ x ∈ nodes) {s : Sr N L} {D : List N} {T : N → Nat} (h : SrInv fr to_ ls src nodes s D T) :
    ∃ D' T', SrInv fr to_ ls src nodes (roundS fr to_ ls s) D' T' ∧ D'.length = D.length + (roundS fr to_ ls s).moved := by
  have h0 : SrInv fr to_ ls src nodes ⟨s.bef, 0⟩ D T := ⟨h.nd, h.mem, h.sub, h.src_, h.bf, h.lt⟩
  obtain ⟨D', T', h1, e⟩ := srInv_fold hnodes ls _ D T (fun _ h => h) h0
  exact ⟨D', T', h1, by unfold roundS; simpa using e⟩
theorem flood_ends {ls : List L} {src : N} {nodes : List N} (hnodes : ∀ x ∈ ls, to_ x ∈ nodes) : ∀ (k : Nat) (s : Sr N L) (D : List N) (T : N → Nat), SrInv fr to_ ls src nodes s D T → nodes.length < D.length + k →
    (∃ D' T', SrInv fr to_ ls src nodes (floodS fr to_ ls k s) D' T') ∧ ∀ x ∈ ls, ((floodS fr to_ ls k s).bef (fr x)).isSome = true → ((floodS fr to_ ls k s).bef (to_ x)).isSome = true
  | 0, s, D, T, h, hk => by
    have := nodup_le D nodes h.nd h.sub
    omega
  | k + 1, s, D, T, h, hk => by
    obtain ⟨D', T', h1, e⟩ := srInv_round hnodes h
    rw [floodS]
    by_cases g : (roundS fr to_ ls s).moved = 0
    · rw [if_pos g]
      refine ⟨⟨D', T', h1⟩, ?_⟩
      obtain ⟨e2, h2⟩ := stillS fr to_ ls ⟨s.bef, 0⟩ g
      rw [roundS, e2]
      exact h2
    · rw [if_neg g]
      exact flood_ends hnodes k _ D' T' h1 (by omega)
variable (fr) in
/-- the way there, from its end -/
def pathB (bef : N → Option L) (zl : L) (src : N) : Nat → N → List L
  | 0, _ => []
  | k + 1, v => if v = src then [] else (bef v).getD zl :: pathB bef zl src k (fr ((bef v).getD zl))
theorem path_is {ls : List L} {src : N} {nodes : List N} {s : Sr N L} {D : List N} {T : N → Nat} (h : SrInv fr to_ ls src nodes s D T) (zl : L) : ∀ (k : Nat) (v : N), (s.bef v).isSome = true → T v < k →
    (∀ x ∈ pathB fr s.bef zl src k v, x ∈ ls ∧ T (to_ x) ≤ T v ∧ to_ x ≠ src) ∧ ((pathB fr s.bef zl src k v).map to_).Nodup ∧ ∀ φ : N → Int, ((pathB fr s.bef zl src k v).map fun x => φ (to_ x) - φ (fr x)).sum = φ v - φ src
  | 0, v, _, hk => by omega
  | k + 1, v, hv, hk => by
    rw [pathB]
    by_cases g : v = src
    · rw [if_pos g]
      subst g
      exact ⟨fun x hx => (by cases hx), List.nodup_nil, fun φ => by simp⟩
    · rw [if_neg g]
      obtain ⟨x, hx⟩ := Option.isSome_iff_exists.1 hv
      obtain ⟨h1, h2, h3, h4⟩ := h.bf v x hx g
      rw [hx, Option.getD_some]
      obtain ⟨p1, p2, p3⟩ := path_is h zl k (fr x) h3 (by omega)
      refine ⟨fun y hy => ?_, ?_, fun φ => ?_⟩
      · rcases List.mem_cons.1 hy with rfl | hy
        · exact ⟨h1, by rw [h2]; exact Nat.le_refl _, by rw [h2]; exact g⟩
        · obtain ⟨q1, q2, q3⟩ := p1 y hy
          exact ⟨q1, by omega, q3⟩
      · rw [List.map_cons, List.nodup_cons]
        refine ⟨fun hm => ?_, p2⟩
        obtain ⟨y, hy, e⟩ := List.mem_map.1 hm
        have := (p1 y hy).2.1
        rw [e, h2] at this
        omega
      · rw [List.map_cons, List.sum_cons, p3, h2]; omega
theorem path_nonempty (bef : N → Option L) (zl : L) {src v : N} (k : Nat) (h : v ≠ src) : pathB fr bef zl src (k + 1) v ≠ [] := by
  rw [pathB, if_neg h]; exact List.cons_ne_nil _ _
end
def Kn.Goal : Kn → Prop
  | .fw _ _ => True | .bk _ _ => True | .upW => True | .dnW => True | _ => False
def Kn.val (S : Sh) (T : Nat → Int) : Kn → Int
  | .fw o p => T (o * S.m + p) | .bk o p => - T (o * S.m + p) | .upW => allS S.n S.m T | .dnW => - allS S.n S.m T | _ => 0
def Kn.own_ : Kn → Kn → Prop
  | .fw o p, k => k = .fw o p ∨ k = .bk o p | .bk o p, k => k = .fw o p ∨ k = .bk o p | .upW, k => k = .upW ∨ k = .dnW | .dnW, k => k = .upW ∨ k = .dnW | _, _ => True
structure Held (S : Sh) (T : Nat → Int) : Prop where
  inn : InT S T
  ok : wrongS S T = 0
theorem bes_nonneg (n : Int) (r : Int × Int) : 0 ≤ bes n r := by unfold bes; omega
theorem sumR_nonneg {f : Nat → Int} {n : Nat} (h : ∀ i, i < n → 0 ≤ f i) : 0 ≤ sumR n f := by
  have := sumR_le (f := fun _ => 0) (g := f) (n := n) h
  rwa [sumR_const0] at this
theorem wrong_nonneg (S : Sh) (T : Nat → Int) : 0 ≤ wrongS S T := by
  have h1 := bes_nonneg (allS S.n S.m T) S.all
  have h2 := sumR_nonneg (n := S.n) (f := fun o => bes (ownS S.m T o) (rgAt S.os o)) fun i _ => bes_nonneg _ _
  have h3 := sumR_nonneg (n := S.m) (f := fun p => bes (pckS S.n S.m T p) (rgAt S.ps p)) fun i _ => bes_nonneg _ _
  unfold wrongS; omega
theorem sumR_each {f : Nat → Int} : ∀ {n : Nat}, (∀ i, i < n → 0 ≤ f i) → sumR n f = 0 → ∀ i, i < n → f i = 0
  | 0, _, _, i, hi => by omega
  | n + 1, h, h0, i, hi => by
    rw [sumR_succ] at h0
    have h1 := sumR_nonneg (f := f) (n := n) fun i hi => h i (by omega)
    have h2 := h n (by omega)
    by_cases e : i = n
    · subst e; omega
    · exact sumR_each (n := n) (fun i hi => h i (by omega)) (by omega) i (by omega)
theorem bes_zero {n : Int} {r : Int × Int} : bes n r = 0 ↔ r.1 ≤ n ∧ n ≤ r.2 := by unfold bes; omega
theorem held_in {S : Sh} {T : Nat → Int} (h : wrongS S T = 0) : (∀ o, o < S.n → (rgAt S.os o).1 ≤ ownS S.m T o ∧ ownS S.m T o ≤ (rgAt S.os o).2) ∧ (∀ p, p < S.m → (rgAt S.ps p).1 ≤ pckS S.n S.m T p ∧ pckS S.n S.m T p ≤ (rgAt S.ps p).2) ∧ S.all.1 ≤ allS S.n S.m T ∧ allS S.n S.m T ≤ S.all.2 := by
  have h1 := bes_nonneg (allS S.n S.m T) S.all
  have h2 := sumR_nonneg (n := S.n) (f := fun o => bes (ownS S.m T o) (rgAt S.os o)) fun i _ => bes_nonneg _ _
  have h3 := sumR_nonneg (n := S.m) (f := fun p => bes (pckS S.n S.m T p) (rgAt S.ps p)) fun i _ => bes_nonneg _ _
  unfold wrongS at h
  exact ⟨fun o ho => bes_zero.1 (sumR_each (n := S.n) (f := fun o => bes (ownS S.m T o) (rgAt S.os o)) (fun i _ => bes_nonneg _ _) (by omega) o ho),
    fun p hp => bes_zero.1 (sumR_each (n := S.m) (f := fun p => bes (pckS S.n S.m T p) (rgAt S.ps p)) (fun i _ => bes_nonneg _ _) (by omega) p hp), bes_zero.1 (by omega)⟩
structure Closed (S : Sh) (T : Nat → Int) (κ : Kn) (R : Int × Int → Bool) : Prop where
  a : R κ.to_ = true
  b : R κ.fr = false
  c : ∀ k : Kn, k.Is S → ¬ κ.own_ k → 0 < k.room S T → k.wr S T ≤ 0 → R k.fr = true → R k.to_ = true
def Kn.top (S : Sh) : Kn → Int
  | .fw o p => (rgAt S.cs (o * S.m + p)).2 | .bk o p => - (rgAt S.cs (o * S.m + p)).1 | .upW => S.all.2 | .dnW => - S.all.1 | _ => 0
def Stop (S : Sh) (T : Nat → Int) (κ : Kn) : Prop := κ.val S T = κ.top S ∨ ∃ R, Closed S T κ R
theorem val_top {S : Sh} (hS : S.Ok) {T : Nat → Int} (h : Held S T) {κ : Kn} (hg : κ.Goal) (hi : κ.Is S) : κ.val S T ≤ κ.top S := by
  obtain ⟨-, -, ha⟩ := held_in h.ok
  cases κ with
  | fw o p => exact (h.inn _ (cell_lt S hS.len hi.1 hi.2)).2
  | bk o p => have := (h.inn _ (cell_lt S hS.len hi.1 hi.2)).1; simp only [Kn.val, Kn.top]; omega
  | upW => exact ha.2
  | dnW => simp only [Kn.val, Kn.top]; omega
  | upO _ => cases hg
  | dnO _ => cases hg
  | upP _ => cases hg
  | dnP _ => cases hg
def one_ (b : Bool) : Int := if b then 1 else 0
theorem border (S : Sh) (D : Nat → Int) (π : Int × Int → Int) :
    (sumR S.n fun o => sumR S.m fun p => (π (pckN p) - π (ownN' o)) * D (o * S.m + p)) + sumR S.n (fun o => (π (ownN' o) - π gateN) * ownS S.m D o) + sumR S.m (fun p => (π boomN - π (pckN p)) * pckS S.n S.m D p) + (π gateN - π boomN) * allS S.n S.m D = 0 := by
  have h := weigh S ⟨fun o => - π (ownN' o), fun p => π (pckN p), 0⟩ D
  simp only [Wts.cell] at h
  have e1 : (sumR S.n fun o => sumR S.m fun p => (π (pckN p) - π (ownN' o)) * D (o * S.m + p)) = sumR S.n fun o => sumR S.m fun p => (- π (ownN' o) + π (pckN p) + 0) * D (o * S.m + p) := sumR_congr fun o _ => sumR_congr fun p _ => by rw [show - π (ownN' o) + π (pckN p) + 0 = π (pckN p) - π (ownN' o) by omega]
  have e2 : sumR S.n (fun o => (π (ownN' o) - π gateN) * ownS S.m D o) = - sumR S.n (fun o => - π (ownN' o) * ownS S.m D o) - π gateN * allS S.n S.m D := by
    unfold allS
    rw [← sumR_mul, ← sumR_neg, ← sumR_sub]
    exact sumR_congr fun o _ => by rw [Int.sub_mul, Int.neg_mul]; omega
  have e3 : sumR S.m (fun p => (π boomN - π (pckN p)) * pckS S.n S.m D p) = π boomN * allS S.n S.m D - sumR S.m (fun p => π (pckN p) * pckS S.n S.m D p) := by
    rw [allS_pck, ← sumR_mul, ← sumR_sub]
    exact sumR_congr fun p _ => by rw [Int.sub_mul]
  rw [e1, e2, e3, h, Int.zero_mul, Int.sub_mul]
  omega
theorem term_nonneg {a b : Bool} {d : Int} (h1 : 0 < d → b = true → a = true) (h2 : d < 0 → a = true → b = true) : 0 ≤ (one_ a - one_ b) * d := by
  cases a <;> cases b <;> simp [one_] at h1 h2 ⊢ <;> omega
theorem sub_tables (S : Sh) (T U : Nat → Int) : (∀ o, ownS S.m (fun i => U i - T i) o = ownS S.m U o - ownS S.m T o) ∧ (∀ p, pckS S.n S.m (fun i => U i - T i) p = pckS S.n S.m U p - pckS S.n S.m T p) ∧ allS S.n S.m (fun i => U i - T i) = allS S.n S.m U - allS S.n S.m T := by
  have h1 : ∀ o, ownS S.m (fun i => U i - T i) o = ownS S.m U o - ownS S.m T o := fun o => sumR_sub _ _ _
  refine ⟨h1, fun p => sumR_sub _ _ _, ?_⟩
  unfold allS
  rw [sumR_congr fun o _ => h1 o, sumR_sub]
theorem closed_max {S : Sh} (hS : S.Ok) {T U : Nat → Int} (hT : Held S T) (hU : Held S U) {κ : Kn} (hg : κ.Goal) (hi : κ.Is S) {R : Int × Int → Bool} (h : Closed S T κ R) : κ.val S U ≤ κ.val S T := by
  obtain ⟨t1, t2, t3⟩ := held_in hT.ok
  obtain ⟨u1, u2, u3⟩ := held_in hU.ok
  obtain ⟨d1, d2, d3⟩ := sub_tables S T U
  have hB := border S (fun i => U i - T i) fun x => one_ (R x)
  have rmu : ∀ n r, 0 < upRm n r := fun n r => (rm_pos n r).1
  have rmd : ∀ n r, 0 < dnRm n r := fun n r => (rm_pos n r).2
  have nO : ∀ o, o < S.n → 0 ≤ (one_ (R (ownN' o)) - one_ (R gateN)) * ownS S.m (fun i => U i - T i) o := by
    intro o ho
    rw [d1]
    have g1 := t1 o ho
    have g2 := u1 o ho
    refine term_nonneg (fun hd hr => ?_) fun hd hr => ?_
    · refine h.c (.upO o) ho (by cases κ <;> simp [Kn.own_] <;> cases hg) (rmu _ _) ?_ hr
      simp only [Kn.wr, upWr]; split
      · omega
      · split <;> omega
    · refine h.c (.dnO o) ho (by cases κ <;> simp [Kn.own_] <;> cases hg) (rmd _ _) ?_ hr
      simp only [Kn.wr, dnWr]; split
      · omega
      · split <;> omega
  have nP : ∀ p, p < S.m → 0 ≤ (one_ (R boomN) - one_ (R (pckN p))) * pckS S.n S.m (fun i => U i - T i) p := by
    intro p hp
    rw [d2]
    have g1 := t2 p hp
    have g2 := u2 p hp
    refine term_nonneg (fun hd hr => ?_) fun hd hr => ?_
    · refine h.c (.upP p) hp (by cases κ <;> simp [Kn.own_] <;> cases hg) (rmu _ _) ?_ hr
      simp only [Kn.wr, upWr]; split
      · omega
      · split <;> omega
    · refine h.c (.dnP p) hp (by cases κ <;> simp [Kn.own_] <;> cases hg) (rmd _ _) ?_ hr
      simp only [Kn.wr, dnWr]; split
      · omega
      · split <;> omega
  have nW : (∀ k : Kn, k = .upW ∨ k = .dnW → ¬ κ.own_ k) → 0 ≤ (one_ (R gateN) - one_ (R boomN)) * allS S.n S.m (fun i => U i - T i) := by
    intro hn
    rw [d3]
    refine term_nonneg (fun hd hr => ?_) fun hd hr => ?_
    · refine h.c .upW trivial (hn _ (.inl rfl)) (rmu _ _) ?_ hr
      simp only [Kn.wr, upWr]; split
      · omega
      · split <;> omega
    · refine h.c .dnW trivial (hn _ (.inr rfl)) (rmd _ _) ?_ hr
      simp only [Kn.wr, dnWr]; split
      · omega
      · split <;> omega
  have nC : ∀ o p, o < S.n → p < S.m → (∀ k : Kn, k = .fw o p ∨ k = .bk o p → ¬ κ.own_ k) → 0 ≤ (one_ (R (pckN p)) - one_ (R (ownN' o))) * (U (o * S.m + p) - T (o * S.m + p)) := by
    intro o p ho hp hn
    have g1 := hT.inn _ (cell_lt S hS.len ho hp)
    have g2 := hU.inn _ (cell_lt S hS.len ho hp)
    refine term_nonneg (fun hd hr => ?_) fun hd hr => ?_
    · exact h.c (.fw o p) ⟨ho, hp⟩ (hn _ (.inl rfl)) (by simp only [Kn.room]; omega) (by simp [Kn.wr]) hr
    · exact h.c (.bk o p) ⟨ho, hp⟩ (hn _ (.inr rfl)) (by simp only [Kn.room]; omega) (by simp [Kn.wr]) hr
  have sO := sumR_nonneg nO
  have sP := sumR_nonneg nP
  have hab : one_ (R κ.to_) = 1 ∧ one_ (R κ.fr) = 0 := by rw [h.a, h.b]; exact ⟨rfl, rfl⟩
  have cellCase : ∀ a b, a < S.n → b < S.m → (∀ k : Kn, κ.own_ k ↔ k = .fw a b ∨ k = .bk a b) → (one_ (R (pckN b)) - one_ (R (ownN' a))) * (U (a * S.m + b) - T (a * S.m + b)) ≤ 0 := by
    intro a b ha hb hown
    have sW := nW fun k hk => by rw [hown]; rcases hk with rfl | rfl <;> simp
    have hle : (one_ (R (pckN b)) - one_ (R (ownN' a))) * (U (a * S.m + b) - T (a * S.m + b)) ≤ sumR S.n fun o => sumR S.m fun p => (one_ (R (pckN p)) - one_ (R (ownN' o))) * (U (o * S.m + p) - T (o * S.m + p)) := by
      have e : (one_ (R (pckN b)) - one_ (R (ownN' a))) * (U (a * S.m + b) - T (a * S.m + b)) = sumR S.n fun o => sumR S.m fun p => if o = a ∧ p = b then (one_ (R (pckN p)) - one_ (R (ownN' o))) * (U (o * S.m + p) - T (o * S.m + p)) else 0 := by
        rw [sumR_one (k := a) ha (fun o _ hne => sumR_zero' fun p _ => by simp [hne]), sumR_one (k := b) hb (fun p _ hne => by simp [hne])]
        simp
      rw [e]
      refine sumR_le fun o ho => sumR_le fun p hp => ?_
      split
      · exact Int.le_refl _
      · rename_i hne
        refine nC o p ho hp fun k hk => ?_
        rw [hown]
        rcases hk with rfl | rfl
        · simp; exact fun h1 h2 => hne ⟨h1, h2⟩
        · simp; exact fun h1 h2 => hne ⟨h1, h2⟩
    omega
  have wholeCase : (∀ k : Kn, κ.own_ k ↔ k = .upW ∨ k = .dnW) → (one_ (R gateN) - one_ (R boomN)) * allS S.n S.m (fun i => U i - T i) ≤ 0 := by
    intro hown
    have sC := sumR_nonneg (n := S.n) (f := fun o => sumR S.m fun p => (one_ (R (pckN p)) - one_ (R (ownN' o))) * (U (o * S.m + p) - T (o * S.m + p))) fun o ho => sumR_nonneg fun p hp => nC o p ho hp fun k hk => by rw [hown]; rcases hk with rfl | rfl <;> simp
    omega
  cases κ with
  | fw a b =>
    have := cellCase a b hi.1 hi.2 fun k => Iff.rfl
    simp only [Kn.to_, Kn.fr] at hab
    rw [hab.1, hab.2] at this
    simp only [Kn.val]; omega
  | bk a b =>
    have := cellCase a b hi.1 hi.2 fun k => Iff.rfl
    simp only [Kn.to_, Kn.fr] at hab
    rw [hab.1, hab.2] at this
    simp only [Kn.val]; omega
  | upW =>
    have := wholeCase fun k => Iff.rfl
    simp only [Kn.to_, Kn.fr] at hab
    rw [hab.1, hab.2, d3] at this
    simp only [Kn.val]; omega
  | dnW =>
    have := wholeCase fun k => Iff.rfl
    simp only [Kn.to_, Kn.fr] at hab
    rw [hab.1, hab.2, d3] at this
    simp only [Kn.val]; omega
  | upO _ => cases hg
  | dnO _ => cases hg
  | upP _ => cases hg
  | dnP _ => cases hg
theorem stop_max {S : Sh} (hS : S.Ok) {T U : Nat → Int} (hT : Held S T) (hU : Held S U) {κ : Kn} (hg : κ.Goal) (hi : κ.Is S) (h : Stop S T κ) : κ.val S U ≤ κ.val S T := by
  rcases h with h | ⟨R, h⟩
  · rw [h]; exact val_top hS hU hg hi
  · exact closed_max hS hT hU hg hi h
def okL (S : Sh) (κ : Kn) (x : Lk) : Bool :=
  !(decide (0 < x.wr) || (decide (κ.cell S.m ≠ -1) && decide (x.cell = κ.cell S.m)) || (decide (κ.cell S.m = -1) && (decide (x.fr ≠ x.to_) && ((decide (x.fr = boomN) && decide (x.to_ = gateN)) || (decide (x.fr = gateN) && decide (x.to_ = boomN))))))
def wayList (S : Sh) (t : List Int) (κ : Kn) : List Lk := (liveL S (tat t)).filter (okL S κ)
def sr0 (src : Int × Int) : Sr (Int × Int) Lk := ⟨upd (fun _ => none) src (some lk0), 0⟩
def floodT (S : Sh) (t : List Int) (κ : Kn) : Sr (Int × Int) Lk := floodS Lk.fr Lk.to_ (wayList S t κ) (manyS S) (sr0 κ.to_)
def wayT (S : Sh) (t : List Int) (κ : Kn) : List Lk := if ((floodT S t κ).bef κ.fr).isSome then pathB Lk.fr (floodT S t κ).bef lk0 κ.to_ (manyS S + 1) κ.fr else []
def closing (S : Sh) (t : List Int) (κ : Kn) : Option Lk := (liveL S (tat t)).find? fun x => decide (x.fr = κ.fr) && (decide (x.to_ = κ.to_) && (decide (x.cell = κ.cell S.m) && decide (x.wr ≤ 0)))
def pushL (S : Sh) (κ : Kn) : Nat → List Int → List Int
  | 0, t => t
  | k + 1, t => if wayT S t κ = [] then t else match closing S t κ with
    | some x => pushL S κ k (changeL t (wayT S t κ ++ [x]))
    | none => t
theorem goal_apart {κ : Kn} (hg : κ.Goal) : κ.fr ≠ κ.to_ := by cases κ <;> simp [Kn.Goal] at hg <;> simp [Kn.fr, Kn.to_, ownN', pckN, boomN, gateN]
theorem cell_inj {S : Sh} {a b o p : Nat} (hb : b < S.m) (hp : p < S.m) (e : a * S.m + b = o * S.m + p) : a = o ∧ b = p := by
  have h1 : (a * S.m + b) / S.m = a := by rw [Nat.add_comm, Nat.add_mul_div_right _ _ (by omega), Nat.div_eq_of_lt hb, Nat.zero_add]
  have h2 : (o * S.m + p) / S.m = o := by rw [Nat.add_comm, Nat.add_mul_div_right _ _ (by omega), Nat.div_eq_of_lt hp, Nat.zero_add]
  have h3 : (a * S.m + b) % S.m = b := by rw [Nat.add_comm, Nat.add_mul_mod_self_right, Nat.mod_eq_of_lt hb]
  have h4 : (o * S.m + p) % S.m = p := by rw [Nat.add_comm, Nat.add_mul_mod_self_right, Nat.mod_eq_of_lt hp]
  rw [e] at h1 h3
  exact ⟨h1.symm.trans h2, h3.symm.trans h4⟩
theorem cellNat_ne (n : Nat) : ¬ ((n : Int) = -1) := by omega
theorem okL_kind {S : Sh} {T : Nat → Int} {κ k : Kn} (hg : κ.Goal) (hi : κ.Is S) (hk : k.Is S) : okL S κ (lkOf S T k) = true ↔ k.wr S T ≤ 0 ∧ ¬ κ.own_ k := by
  have hwr : (lkOf S T k).wr = k.wr S T := rfl
  have hcl : (lkOf S T k).cell = k.cell S.m := rfl
  have hfr : (lkOf S T k).fr = k.fr := rfl
  have hto : (lkOf S T k).to_ = k.to_ := rfl
  unfold okL
  rw [hwr, hcl, hfr, hto]
  have hcase : ∀ a b : Nat, a < S.n ∧ b < S.m → ((k.cell S.m = ((a * S.m + b : Nat) : Int)) ↔ (k = .fw a b ∨ k = .bk a b)) := by
    intro a b hab
    cases k with
    | fw o p =>
      simp only [Kn.cell]
      constructor
      · intro h
        obtain ⟨rfl, rfl⟩ := cell_inj hk.2 hab.2 (Int.ofNat.inj h)
        exact .inl rfl
      · rintro (h | h)
        · injection h with h1 h2; rw [h1, h2]
        · cases h
    | bk o p =>
      simp only [Kn.cell]
      constructor
      · intro h
        obtain ⟨rfl, rfl⟩ := cell_inj hk.2 hab.2 (Int.ofNat.inj h)
        exact .inr rfl
      · rintro (h | h)
        · cases h
        · injection h with h1 h2; rw [h1, h2]
    | upO i => exact ⟨fun h => absurd h.symm (cellNat_ne _), fun h => by rcases h with h | h <;> cases h⟩
    | dnO i => exact ⟨fun h => absurd h.symm (cellNat_ne _), fun h => by rcases h with h | h <;> cases h⟩
    | upP i => exact ⟨fun h => absurd h.symm (cellNat_ne _), fun h => by rcases h with h | h <;> cases h⟩
    | dnP i => exact ⟨fun h => absurd h.symm (cellNat_ne _), fun h => by rcases h with h | h <;> cases h⟩
    | upW => exact ⟨fun h => absurd h.symm (cellNat_ne _), fun h => by rcases h with h | h <;> cases h⟩
    | dnW => exact ⟨fun h => absurd h.symm (cellNat_ne _), fun h => by rcases h with h | h <;> cases h⟩
  have hwhole : (k.fr ≠ k.to_ ∧ ((k.fr = boomN ∧ k.to_ = gateN) ∨ (k.fr = gateN ∧ k.to_ = boomN))) ↔ (k = .upW ∨ k = .dnW) := by
    cases k <;> simp [Kn.fr, Kn.to_, ownN', pckN, boomN, gateN]
  cases κ with
  | fw a b =>
    have h : (k.cell S.m = (Kn.fw a b).cell S.m) ↔ _ := hcase a b hi
    have hne : ¬ ((Kn.fw a b).cell S.m = -1) := cellNat_ne _
    simp only [Kn.own_, ← h]
    generalize (Kn.fw a b).cell S.m = c at *
    generalize k.cell S.m = d at *
    simp [hne]
  | bk a b =>
    have h : (k.cell S.m = (Kn.bk a b).cell S.m) ↔ _ := hcase a b hi
    have hne : ¬ ((Kn.bk a b).cell S.m = -1) := cellNat_ne _
    simp only [Kn.own_, ← h]
    generalize (Kn.bk a b).cell S.m = c at *
    generalize k.cell S.m = d at *
    simp [hne]
  | upW =>
    simp only [Kn.own_, ← hwhole]
    simp [Kn.cell]
    intro _
    generalize (k.fr = k.to_) = A
    generalize (k.fr = boomN) = B
    generalize (k.to_ = gateN) = C
    generalize (k.fr = gateN) = D
    generalize (k.to_ = boomN) = E
    by_cases hA : A <;> by_cases hB : B <;> by_cases hC : C <;> by_cases hD : D <;> by_cases hE : E <;> simp [hA, hB, hC, hD, hE]
  | dnW =>
    simp only [Kn.own_, ← hwhole]
    simp [Kn.cell]
    intro _
    generalize (k.fr = k.to_) = A
    generalize (k.fr = boomN) = B
    generalize (k.to_ = gateN) = C
    generalize (k.fr = gateN) = D
    generalize (k.to_ = boomN) = E
    by_cases hA : A <;> by_cases hB : B <;> by_cases hC : C <;> by_cases hD : D <;> by_cases hE : E <;> simp [hA, hB, hC, hD, hE]
  | upO _ => cases hg
  | dnO _ => cases hg
  | upP _ => cases hg
  | dnP _ => cases hg
theorem way_kind {S : Sh} (hS : S.Ok) {t : List Int} {κ : Kn} (hg : κ.Goal) (hi : κ.Is S) {x : Lk} : x ∈ wayList S t κ ↔ ∃ k : Kn, k.Is S ∧ 0 < k.room S (tat t) ∧ k.wr S (tat t) ≤ 0 ∧ ¬ κ.own_ k ∧ lkOf S (tat t) k = x := by
  unfold wayList
  rw [List.mem_filter, live_kind hS]
  constructor
  · rintro ⟨⟨k, h1, h2, rfl⟩, h⟩
    obtain ⟨h3, h4⟩ := (okL_kind hg hi h1).1 h
    exact ⟨k, h1, h2, h3, h4, rfl⟩
  · rintro ⟨k, h1, h2, h3, h4, rfl⟩
    exact ⟨⟨k, h1, h2, rfl⟩, (okL_kind hg hi h1).2 ⟨h3, h4⟩⟩
theorem sr0_inv (ls : List Lk) (src : Int × Int) (nodes : List (Int × Int)) (hs : src ∈ nodes) : SrInv Lk.fr Lk.to_ ls src nodes (sr0 src) [src] (fun _ => 0) := by
  refine ⟨by simp, fun v => ?_, fun v hv => ?_, by simp [sr0, upd_same], fun v x hx hv => ?_, fun v _ => by simp⟩
  · simp only [sr0, List.mem_singleton]
    by_cases e : v = src
    · subst e; simp [upd_same]
    · simp [upd_other _ _ e, e]
  · rw [List.mem_singleton.1 hv]; exact hs
  · simp only [sr0] at hx
    rw [upd_other _ _ hv] at hx
    cases hx
theorem goal_node {S : Sh} {κ : Kn} (hg : κ.Goal) (hi : κ.Is S) : κ.to_ ∈ nodesS S := by
  unfold nodesS
  cases κ with
  | fw o p => exact List.mem_cons_of_mem _ (List.mem_cons_of_mem _ (List.mem_append.2 (.inr (List.mem_map.2 ⟨p, List.mem_range.2 hi.2, rfl⟩))))
  | bk o p => exact List.mem_cons_of_mem _ (List.mem_cons_of_mem _ (List.mem_append.2 (.inl (List.mem_map.2 ⟨o, List.mem_range.2 hi.1, rfl⟩))))
  | upW => exact List.mem_cons_self
  | dnW => exact List.mem_cons_of_mem _ List.mem_cons_self
  | upO _ => cases hg
  | dnO _ => cases hg
  | upP _ => cases hg
  | dnP _ => cases hg
theorem flood_inv {S : Sh} (hS : S.Ok) (t : List Int) {κ : Kn} (hg : κ.Goal) (hi : κ.Is S) : (∃ D T, SrInv Lk.fr Lk.to_ (wayList S t κ) κ.to_ (nodesS S) (floodT S t κ) D T) ∧
    ∀ x ∈ wayList S t κ, ((floodT S t κ).bef x.fr).isSome = true → ((floodT S t κ).bef x.to_).isSome = true := by
  have hn : ∀ x ∈ wayList S t κ, x.to_ ∈ nodesS S := fun x hx => live_nodes hS x (List.mem_filter.1 hx).1
  exact flood_ends hn (manyS S) (sr0 κ.to_) [κ.to_] _ (sr0_inv _ _ _ (goal_node hg hi)) (by simp [nodesS, manyS])
theorem way_circ {S : Sh} (hS : S.Ok) {t : List Int} {κ : Kn} (hg : κ.Goal) (hi : κ.Is S) (h : wayT S t κ ≠ []) : ∃ ks : List Kn, ks.map (lkOf S (tat t)) = wayT S t κ ∧ (∀ k ∈ ks, k.Is S ∧ 0 < k.room S (tat t) ∧ k.wr S (tat t) ≤ 0 ∧ ¬ κ.own_ k) ∧ Circ S (ks ++ [κ]) := by
  unfold wayT at h ⊢
  by_cases hb : ((floodT S t κ).bef κ.fr).isSome = true
  · rw [if_pos hb]
    obtain ⟨⟨D, T, hI⟩, -⟩ := flood_inv hS t hg hi
    have hlt := hI.lt κ.fr ((hI.mem _).2 hb)
    have hlen := nodup_le D (nodesS S) hI.nd hI.sub
    have hnl : (nodesS S).length = manyS S := by simp [nodesS, manyS]
    obtain ⟨p1, p2, p3⟩ := path_is hI lk0 (manyS S + 1) κ.fr hb (by omega)
    obtain ⟨p, hp⟩ : ∃ p, p = pathB Lk.fr (floodT S t κ).bef lk0 κ.to_ (manyS S + 1) κ.fr := ⟨_, rfl⟩
    rw [← hp] at p1 p2 p3 ⊢
    have hsub : ∀ q : List Lk, (∀ x ∈ q, x ∈ wayList S t κ) → ∃ ks : List Kn, ks.map (lkOf S (tat t)) = q ∧ ∀ k ∈ ks, k.Is S ∧ 0 < k.room S (tat t) ∧ k.wr S (tat t) ≤ 0 ∧ ¬ κ.own_ k := by
      intro q
      induction q with
      | nil => intro _; exact ⟨[], rfl, fun k hk => by cases hk⟩
      | cons x q ih =>
        intro hq
        obtain ⟨ks, e, hk⟩ := ih fun y hy => hq y (by simp [hy])
        obtain ⟨k, h1, h2, h3, h4, h5⟩ := (way_kind hS hg hi).1 (hq x (by simp))
        refine ⟨k :: ks, by rw [List.map_cons, h5, e], fun j hj => ?_⟩
        rcases List.mem_cons.1 hj with rfl | hj
        · exact ⟨h1, h2, h3, h4⟩
        · exact hk j hj
    obtain ⟨ks, e, hk⟩ := hsub p fun x hx => (p1 x hx).1
    subst e
    refine ⟨ks, rfl, hk, ⟨fun k hk' => ?_, ?_, fun φ => ?_⟩⟩
    · rcases List.mem_append.1 hk' with h | h
      · exact (hk k h).1
      · rw [List.mem_singleton.1 h]; exact hi
    · rw [List.nodup_append]
      refine ⟨?_, by simp, ?_⟩
      · rw [List.map_map, List.Nodup, List.pairwise_map] at p2
        exact p2.imp fun h e => h (by rw [e])
      · intro a ha b hb e
        rw [List.mem_singleton.1 hb] at e
        subst e
        exact (p1 (lkOf S (tat t) a) (List.mem_map.2 ⟨a, ha, rfl⟩)).2.2 rfl
    · have := p3 φ
      rw [List.map_map] at this
      rw [List.map_append, List.sum_append]
      have e : (ks.map fun k => φ k.to_ - φ k.fr).sum = φ κ.fr - φ κ.to_ := this
      rw [e]; simp; omega
  · rw [if_neg hb] at h
    exact absurd rfl h
theorem closing_some {S : Sh} (hS : S.Ok) {t : List Int} {κ : Kn} (hg : κ.Goal) (hi : κ.Is S) {x : Lk} (h : closing S t κ = some x) : x = lkOf S (tat t) κ ∧ 0 < κ.room S (tat t) ∧ κ.wr S (tat t) ≤ 0 := by
  unfold closing at h
  have hm := List.mem_of_find?_eq_some h
  have hp := List.find?_some h
  simp only [Bool.and_eq_true, decide_eq_true_iff] at hp
  obtain ⟨k, h1, h2, rfl⟩ := (live_kind hS).1 hm
  obtain ⟨e1, e2, e3, e4⟩ := hp
  have hcl : (lkOf S (tat t) k).cell = k.cell S.m := rfl
  have hfr : (lkOf S (tat t) k).fr = k.fr := rfl
  have hto : (lkOf S (tat t) k).to_ = k.to_ := rfl
  have hwr : (lkOf S (tat t) k).wr = k.wr S (tat t) := rfl
  rw [hfr] at e1
  rw [hto] at e2
  rw [hcl] at e3
  rw [hwr] at e4
  have hk : k = κ := by
    cases κ with
    | fw a b =>
      cases k with
      | fw o p =>
        obtain ⟨rfl, rfl⟩ := cell_inj h1.2 hi.2 (Int.ofNat.inj e3)
        rfl
      | bk o p => simp [Kn.fr, ownN', pckN] at e1
      | upO i => exact absurd e3.symm (cellNat_ne _)
      | dnO i => exact absurd e3.symm (cellNat_ne _)
      | upP i => exact absurd e3.symm (cellNat_ne _)
      | dnP i => exact absurd e3.symm (cellNat_ne _)
      | upW => exact absurd e3.symm (cellNat_ne _)
      | dnW => exact absurd e3.symm (cellNat_ne _)
    | bk a b =>
      cases k with
      | bk o p =>
        obtain ⟨rfl, rfl⟩ := cell_inj h1.2 hi.2 (Int.ofNat.inj e3)
        rfl
      | fw o p => simp [Kn.fr, ownN', pckN] at e1
      | upO i => exact absurd e3.symm (cellNat_ne _)
      | dnO i => exact absurd e3.symm (cellNat_ne _)
      | upP i => exact absurd e3.symm (cellNat_ne _)
      | dnP i => exact absurd e3.symm (cellNat_ne _)
      | upW => exact absurd e3.symm (cellNat_ne _)
      | dnW => exact absurd e3.symm (cellNat_ne _)
    | upW => cases k <;> simp [Kn.fr, Kn.to_, ownN', pckN, boomN, gateN] at e1 e2 ⊢
    | dnW => cases k <;> simp [Kn.fr, Kn.to_, ownN', pckN, boomN, gateN] at e1 e2 ⊢
    | upO _ => cases hg
    | dnO _ => cases hg
    | upP _ => cases hg
    | dnP _ => cases hg
  subst hk
  exact ⟨rfl, h2, e4⟩
theorem closing_none {S : Sh} (hS : S.Ok) {t : List Int} (hT : Held S (tat t)) {κ : Kn} (hg : κ.Goal) (hi : κ.Is S) (h : closing S t κ = none) : κ.val S (tat t) = κ.top S := by
  unfold closing at h
  have hno : ¬ (0 < κ.room S (tat t) ∧ κ.wr S (tat t) ≤ 0) := by
    rintro ⟨h1, h2⟩
    have := List.find?_eq_none.1 h (lkOf S (tat t) κ) ((live_kind hS).2 ⟨κ, hi, h1, rfl⟩)
    refine this ?_
    simp only [lkOf]
    simp [h2]
  obtain ⟨-, -, ha⟩ := held_in hT.ok
  have rmu : ∀ n r, 0 < upRm n r := fun n r => (rm_pos n r).1
  have rmd : ∀ n r, 0 < dnRm n r := fun n r => (rm_pos n r).2
  cases κ with
  | fw o p =>
    have := (hT.inn _ (cell_lt S hS.len hi.1 hi.2))
    simp only [Kn.room, Kn.wr] at hno
    simp only [Kn.val, Kn.top]; omega
  | bk o p =>
    have := (hT.inn _ (cell_lt S hS.len hi.1 hi.2))
    simp only [Kn.room, Kn.wr] at hno
    simp only [Kn.val, Kn.top]; omega
  | upW =>
    simp only [Kn.room, Kn.wr] at hno
    have h1 : ¬ upWr (allS S.n S.m (tat t)) S.all ≤ 0 := fun h => hno ⟨rmu _ _, h⟩
    simp only [Kn.val, Kn.top]
    unfold upWr at h1
    split at h1
    · omega
    · split at h1 <;> omega
  | dnW =>
    simp only [Kn.room, Kn.wr] at hno
    have h1 : ¬ dnWr (allS S.n S.m (tat t)) S.all ≤ 0 := fun h => hno ⟨rmd _ _, h⟩
    simp only [Kn.val, Kn.top]
    unfold dnWr at h1
    split at h1
    · omega
    · split at h1 <;> omega
  | upO _ => cases hg
  | dnO _ => cases hg
  | upP _ => cases hg
  | dnP _ => cases hg
theorem way_none {S : Sh} (hS : S.Ok) {t : List Int} {κ : Kn} (hg : κ.Goal) (hi : κ.Is S) (h : wayT S t κ = []) : ∃ R, Closed S (tat t) κ R := by
  obtain ⟨⟨D, T, hI⟩, hcl⟩ := flood_inv hS t hg hi
  refine ⟨fun v => ((floodT S t κ).bef v).isSome, hI.src_, ?_, fun k hk ho hr hw hf => ?_⟩
  · show ((floodT S t κ).bef κ.fr).isSome = false
    cases hb : ((floodT S t κ).bef κ.fr).isSome
    · rfl
    · unfold wayT at h
      rw [if_pos hb] at h
      exact absurd h (path_nonempty _ _ _ (goal_apart hg))
  · exact hcl (lkOf S (tat t) k) ((way_kind hS hg hi).2 ⟨k, hk, hr, hw, ho, rfl⟩) hf
def Kn.rev : Kn → Kn
  | .fw o p => .bk o p | .bk o p => .fw o p | .upW => .dnW | .dnW => .upW | k => k
theorem rev_goal {κ : Kn} (h : κ.Goal) : κ.rev.Goal := by cases κ <;> first | trivial | cases h
theorem rev_is {S : Sh} {κ : Kn} (hg : κ.Goal) (h : κ.Is S) : κ.rev.Is S := by cases κ <;> first | exact h | cases hg
theorem rev_val {S : Sh} {T : Nat → Int} {κ : Kn} (hg : κ.Goal) : κ.rev.val S T = - κ.val S T := by cases κ <;> simp [Kn.rev, Kn.val] <;> cases hg
theorem moved_val {S : Sh} {out : List Kn} (h : Circ S out) (T : Nat → Int) (r : Int) {κ : Kn} (hg : κ.Goal) (hi : κ.Is S) (h1 : cnt out κ = 1) (h2 : cnt out κ.rev = 0) : κ.val S (moved S.m T (cnt out) r) = κ.val S T + r := by
  cases κ with
  | fw o p =>
    simp only [Kn.val, Kn.rev] at h1 h2 ⊢
    rw [moved_at T (cnt out) r hi.2, h1, h2]; simp
  | bk o p =>
    simp only [Kn.val, Kn.rev] at h1 h2 ⊢
    rw [moved_at T (cnt out) r hi.2, h1, h2]; simp; omega
  | upW =>
    simp only [Kn.val, Kn.rev] at h1 h2 ⊢
    rw [all_moved h, h1, h2]; simp
  | dnW =>
    simp only [Kn.val, Kn.rev] at h1 h2 ⊢
    rw [all_moved h, h1, h2]; simp; omega
  | upO _ => cases hg
  | dnO _ => cases hg
  | upP _ => cases hg
  | dnP _ => cases hg
theorem val_congr {S : Sh} (hS : S.Ok) {T U : Nat → Int} (h : ∀ i, i < S.cs.length → T i = U i) {κ : Kn} (hg : κ.Goal) (hi : κ.Is S) : κ.val S T = κ.val S U := by
  cases κ with
  | fw o p => exact h _ (cell_lt S hS.len hi.1 hi.2)
  | bk o p => exact congrArg (- ·) (h _ (cell_lt S hS.len hi.1 hi.2))
  | upW => exact allS_congr hS h
  | dnW => exact congrArg (- ·) (allS_congr hS h)
  | upO _ => cases hg
  | dnO _ => cases hg
  | upP _ => cases hg
  | dnP _ => cases hg
theorem sum_nonpos : ∀ l : List Int, (∀ x ∈ l, x ≤ 0) → l.sum ≤ 0
  | [], _ => by simp
  | x :: l, h => by
    have h1 := sum_nonpos l fun y hy => h y (by simp [hy])
    have h2 := h x (by simp)
    rw [List.sum_cons]; omega
theorem push_step {S : Sh} (hS : S.Ok) {t : List Int} (ht : InL S t) (hw : wrongS S (tat t) = 0) {κ : Kn} (hg : κ.Goal) (hi : κ.Is S) {x : Lk} (hne : wayT S t κ ≠ []) (hx : closing S t κ = some x) :
    InL S (changeL t (wayT S t κ ++ [x])) ∧ wrongS S (tat (changeL t (wayT S t κ ++ [x]))) = 0 ∧ ∃ r, 1 ≤ r ∧ κ.val S (tat (changeL t (wayT S t κ ++ [x]))) = κ.val S (tat t) + r ∧
      ∀ q, 0 ≤ q → q ≤ r → ∃ U, Held S U ∧ κ.val S U = κ.val S (tat t) + q := by
  obtain ⟨ks, e, hk, hc⟩ := way_circ hS hg hi hne
  obtain ⟨rfl, hr, hwr⟩ := closing_some hS hg hi hx
  have hr' : ∀ k ∈ ks ++ [κ], 0 < k.room S (tat t) := fun k h => by
    rcases List.mem_append.1 h with h | h
    · exact (hk k h).2.1
    · rw [List.mem_singleton.1 h]; exact hr
  have hw' : ((ks ++ [κ]).map (Kn.wr S (tat t))).sum ≤ 0 := sum_nonpos _ fun y hy => by
    obtain ⟨k, h, rfl⟩ := List.mem_map.1 hy
    rcases List.mem_append.1 h with h | h
    · exact (hk k h).2.2.1
    · rw [List.mem_singleton.1 h]; exact hwr
  have own1 : κ.own_ κ := by cases κ <;> first | trivial | exact .inl rfl | exact .inr rfl
  have own2 : κ.own_ κ.rev := by cases κ <;> first | trivial | exact .inl rfl | exact .inr rfl
  have n1 : κ ∉ ks := fun h => (hk κ h).2.2.2 own1
  have n2 : κ.rev ∉ ks := fun h => (hk _ h).2.2.2 own2
  have ne : κ.rev ≠ κ := by cases κ <;> first | (cases hg; done) | (intro h; cases h; done)
  have c1 : cnt (ks ++ [κ]) κ = 1 := by unfold cnt; rw [List.count_append, List.count_eq_zero.2 n1]; simp
  have c2 : cnt (ks ++ [κ]) κ.rev = 0 := by unfold cnt; rw [List.count_append, List.count_eq_zero.2 n2]; simp [Ne.symm ne]
  have el : wayT S t κ ++ [lkOf S (tat t) κ] = (ks ++ [κ]).map (lkOf S (tat t)) := by rw [List.map_append, e]; rfl
  rw [el]
  obtain ⟨h1, h2, h3, h4, h5⟩ := change_circ hS ht hc hr'
  obtain ⟨r, hrr⟩ : ∃ r, r = roomOf ((ks ++ [κ]).map (lkOf S (tat t))) := ⟨_, rfl⟩
  rw [← hrr] at h2 h3 h4 h5
  have mul0 : ∀ q : Int, 0 ≤ q → q * ((ks ++ [κ]).map (Kn.wr S (tat t))).sum ≤ 0 := fun q hq => by
    have := Int.mul_le_mul_of_nonneg_left hw' hq
    rwa [Int.mul_zero] at this
  refine ⟨h1, ?_, r, h2, ?_, fun q q0 q1 => ⟨moved S.m (tat t) (cnt (ks ++ [κ])) q, ⟨in_moved hS hc ht.2 q0 fun k h => Int.le_trans q1 (h3 k h), ?_⟩, moved_val hc _ _ hg hi c1 c2⟩⟩
  · have := mul0 r (by omega)
    have := wrong_nonneg S (tat (changeL t ((ks ++ [κ]).map (lkOf S (tat t)))))
    omega
  · rw [val_congr hS h5 hg hi, moved_val hc _ _ hg hi c1 c2]
  · have a := wrong_moved hS hc q0 fun k h => Int.le_trans q1 (h3 k h)
    have := mul0 q q0
    have := wrong_nonneg S (moved S.m (tat t) (cnt (ks ++ [κ])) q)
    omega
theorem top_low {S : Sh} (hS : S.Ok) {T : Nat → Int} (h : Held S T) {κ : Kn} (hg : κ.Goal) (hi : κ.Is S) : κ.top S ≤ κ.val S T + 1000 := by
  obtain ⟨-, -, ha⟩ := held_in h.ok
  have hA := hS.ha
  unfold RgOk at hA
  cases κ with
  | fw o p =>
    have h1 := hS.hc _ (cell_lt S hS.len hi.1 hi.2)
    have h2 := h.inn _ (cell_lt S hS.len hi.1 hi.2)
    unfold RgOk at h1
    simp only [Kn.val, Kn.top]; omega
  | bk o p =>
    have h1 := hS.hc _ (cell_lt S hS.len hi.1 hi.2)
    have h2 := h.inn _ (cell_lt S hS.len hi.1 hi.2)
    unfold RgOk at h1
    simp only [Kn.val, Kn.top]; omega
  | upW => simp only [Kn.val, Kn.top]; omega
  | dnW => simp only [Kn.val, Kn.top]; omega
  | upO _ => cases hg
  | dnO _ => cases hg
  | upP _ => cases hg
  | dnP _ => cases hg
theorem push_ends {S : Sh} (hS : S.Ok) {κ : Kn} (hg : κ.Goal) (hi : κ.Is S) : ∀ (k : Nat) (t : List Int), InL S t → wrongS S (tat t) = 0 → κ.top S - κ.val S (tat t) < k →
    InL S (pushL S κ k t) ∧ wrongS S (tat (pushL S κ k t)) = 0 ∧ Stop S (tat (pushL S κ k t)) κ ∧ κ.val S (tat t) ≤ κ.val S (tat (pushL S κ k t)) ∧
      ∀ v, κ.val S (tat t) ≤ v → v ≤ κ.val S (tat (pushL S κ k t)) → ∃ U, Held S U ∧ κ.val S U = v
  | 0, t, ht, hw, hk => by
    have := val_top hS ⟨ht.2, hw⟩ hg hi
    omega
  | k + 1, t, ht, hw, hk => by
    rw [pushL]
    have self : ∀ v, κ.val S (tat t) ≤ v → v ≤ κ.val S (tat t) → ∃ U, Held S U ∧ κ.val S U = v := fun v a b => ⟨tat t, ⟨ht.2, hw⟩, by omega⟩
    by_cases hne : wayT S t κ = []
    · rw [if_pos hne]
      exact ⟨ht, hw, .inr (way_none hS hg hi hne), Int.le_refl _, self⟩
    · rw [if_neg hne]
      cases hx : closing S t κ with
      | none => exact ⟨ht, hw, .inl (closing_none hS ⟨ht.2, hw⟩ hg hi hx), Int.le_refl _, self⟩
      | some x =>
        obtain ⟨h1, h2, r, h3, h4, h5⟩ := push_step hS ht hw hg hi hne hx
        obtain ⟨i1, i2, i3, i4, i5⟩ := push_ends hS hg hi k _ h1 h2 (by omega)
        refine ⟨i1, i2, i3, by simp only; omega, fun v a b => ?_⟩
        by_cases hv : v ≤ κ.val S (tat t) + r
        · obtain ⟨U, u1, u2⟩ := h5 (v - κ.val S (tat t)) (by omega) (by omega)
          exact ⟨U, u1, by omega⟩
        · exact i5 v (by omega) b
def hiL (S : Sh) (κ : Kn) (t : List Int) : List Int := pushL S κ 20000 t
def loL (S : Sh) (κ : Kn) (t : List Int) : List Int := pushL S κ.rev 20000 (hiL S κ t)
structure Ends (S : Sh) (κ : Kn) (lo hi : Int) : Prop where
  le : lo ≤ hi
  had : ∀ v, lo ≤ v → v ≤ hi → ∃ U, Held S U ∧ κ.val S U = v
  in_ : ∀ U, Held S U → lo ≤ κ.val S U ∧ κ.val S U ≤ hi
theorem ends_is {S : Sh} (hS : S.Ok) {κ : Kn} (hg : κ.Goal) (hi : κ.Is S) {t : List Int} (ht : InL S t) (hw : wrongS S (tat t) = 0) :
    InL S (hiL S κ t) ∧ wrongS S (tat (hiL S κ t)) = 0 ∧ InL S (loL S κ t) ∧ wrongS S (tat (loL S κ t)) = 0 ∧ Ends S κ (κ.val S (tat (loL S κ t))) (κ.val S (tat (hiL S κ t))) := by
  obtain ⟨a1, a2, a3, a4, a5⟩ := push_ends hS hg hi 20000 t ht hw (by have := top_low hS ⟨ht.2, hw⟩ hg hi; omega)
  have e : pushL S κ 20000 t = hiL S κ t := rfl
  rw [e] at a1 a2 a3 a4 a5
  have rg := rev_goal hg
  have ri := rev_is hg hi
  obtain ⟨b1, b2, b3, b4, b5⟩ := push_ends hS rg ri 20000 (hiL S κ t) a1 a2 (by have := top_low hS ⟨a1.2, a2⟩ rg ri; omega)
  have e : pushL S κ.rev 20000 (hiL S κ t) = loL S κ t := rfl
  rw [e] at b1 b2 b3 b4 b5
  refine ⟨a1, a2, b1, b2, ?_, fun v v1 v2 => ?_, fun U hU => ⟨?_, stop_max hS ⟨a1.2, a2⟩ hU hg hi a3⟩⟩
  · rw [rev_val hg, rev_val hg] at b4; omega
  · obtain ⟨U, u1, u2⟩ := b5 (-v) (by rw [rev_val hg]; omega) (by rw [rev_val hg]; omega)
    rw [rev_val hg] at u2
    exact ⟨U, u1, by omega⟩
  · have := stop_max hS ⟨b1.2, b2⟩ hU rg ri b3
    rw [rev_val hg, rev_val hg] at this
    omega
theorem Ends.unique {S : Sh} {κ : Kn} {a b c d : Int} (h : Ends S κ a b) (k : Ends S κ c d) : a = c ∧ b = d := by
  obtain ⟨U, u1, u2⟩ := h.had a (Int.le_refl _) h.le
  obtain ⟨V, v1, v2⟩ := h.had b h.le (Int.le_refl _)
  obtain ⟨X, x1, x2⟩ := k.had c (Int.le_refl _) k.le
  obtain ⟨Y, y1, y2⟩ := k.had d k.le (Int.le_refl _)
  have := k.in_ U u1
  have := k.in_ V v1
  have := h.in_ X x1
  have := h.in_ Y y1
  omega
end Go.Proofs.YtcbhnhoicecnnaaDoor.Hand
