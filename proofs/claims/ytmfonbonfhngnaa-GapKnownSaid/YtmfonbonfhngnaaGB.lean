/- Texts of the claim, joined: HSearch, HPush, HNext. -/
import Derived.Test.YtmfonbonfhngnaaGA
import Derived.Deep.LoopGhost
import Derived.Laws.EntriesVeiled
import Derived.Deep.CutBlock
import Derived.Maps.RangeWalk
import Derived.Maps.AppendAt
/- The longest ways through a net. -/
namespace Go.Proofs.Ytmfonbonfhngnaa.Hand
set_option linter.unusedVariables false
set_option linter.unusedSimpArgs false
open Go.RowKit Go.Shelf Go.Maps Go.Proofs.YtmfonbonfhngnaaW.PrintWords Go.Proofs.YtmfonbonfhngnaaW.PrintLast Go.Proofs.YtmfonbonfhngnaaW.PrintMore
attribute [local go_sem] Oper.semAt_some

/-! what is computed -/
def linkStep (F : Nat → Nat → Int) (G : Nat → Int) (e : Nat × Nat) : Nat → Int :=
  if 0 < F e.1 e.2 then relax (relax G e.1 e.2 0 0) e.2 e.1 0 0 else relax G e.1 e.2 0 0
theorem linkStep_no (F : Nat → Nat → Int) (G : Nat → Int) (u v : Nat) (h : F u v ≤ 0) : linkStep F G (u, v) = relax G u v 0 0 := by
  unfold linkStep
  rw [if_neg (by simp only; omega)]
def logStep (t : List Int) (G : Nat → Int) (i : Nat) : Nat → Int := if rd t i = 0 then relax G (2 * i + 2) (2 * i + 3) 1 1 else relax G (2 * i + 3) (2 * i + 2) (-1) (-1)
def logsTo (t : List Int) (G : Nat → Int) : Nat → Nat → Int
  | 0 => G
  | k + 1 => logStep t (logsTo t G k) k
def linksPass (l : List Int) (F : Nat → Nat → Int) (G : Nat → Int) : Nat → Int := (linksL l).foldl (linkStep F) G
def passF (l : List Int) (F : Nat → Nat → Int) (t : List Int) (G : Nat → Int) : Nat → Int := logsTo t (linksPass l F G) t.length
def sameB (G G' : Nat → Int) : Bool := (List.range 62).all fun i => G' i == G i
/-- rounds, until nothing is made longer -/
def searchN (l : List Int) (F : Nat → Nat → Int) (t : List Int) : Nat → (Nat → Int) → Option (Nat → Int)
  | 0, _ => none
  | k + 1, G => if sameB G (passF l F t G) then some (passF l F t G) else searchN l F t k (passF l F t G)
/-- all numbers of nodes lie between -1000 and M -/
def Bd (M : Int) (G : Nat → Int) : Prop := ∀ j, j < 62 → -1000 ≤ G j ∧ G j ≤ M
theorem Bd.mono {M M' : Int} {G : Nat → Int} (h : Bd M G) (hM : M ≤ M') : Bd M' G := fun j hj => ⟨(h j hj).1, Int.le_trans (h j hj).2 hM⟩
theorem Bd.relax {M : Int} {G : Nat → Int} (h : Bd M G) {u v : Nat} {g o : Int} (hu : u < 62) (_hv : v < 62) (hg : g ≤ 1) : Bd (M + 1) (relax G u v g o) := by
  intro j hj
  have h1 := h j hj
  have h2 := h u hu
  unfold Hand.relax
  split
  · rename_i hh
    rw [upd_other _ _ (by omega), upd_other _ _ (by omega)]
    unfold upd
    split
    · rename_i e; subst e; omega
    · omega
  · omega
theorem links_lt {l : List Int} (hl : l.length ≤ 30) : ∀ e ∈ linksL l, e.1 < 62 ∧ e.2 < 62 := by
  have hb : ∀ i d, i < l.length → d + (i + 1) ≤ l.length → ∀ e ∈ behind l i d, e.1 < 62 ∧ e.2 < 62 := by
    intro i d
    induction d with
    | zero => intro _ _ e he; cases he
    | succ d ih =>
      intro hi hd e he
      rw [behind] at he
      rcases List.mem_append.1 he with he | he
      · exact ih hi (by omega) e he
      · split at he
        · obtain rfl : e = _ := by simpa using he
          simp only; omega
        · cases he
  have ha : ∀ k, k ≤ l.length → ∀ e ∈ linksTo l k, e.1 < 62 ∧ e.2 < 62 := by
    intro k
    induction k with
    | zero => intro _ e he; cases he
    | succ k ih =>
      intro hk e he
      rw [linksTo] at he
      rcases List.mem_append.1 he with he | he
      · exact ih (by omega) e he
      · rw [linksAt] at he
        rcases List.mem_append.1 he with he | he
        · simp only [List.mem_cons, List.not_mem_nil, or_false] at he
          rcases he with rfl | rfl | rfl <;> simp only <;> omega
        · exact hb k _ (by omega) (by omega) e he
  exact ha l.length (Nat.le_refl _)
theorem links_many {l : List Int} (hl : l.length ≤ 30) : (linksL l).length ≤ 990 := by
  have ha : ∀ k, (linksTo l k).length ≤ k * 33 := by
    intro k
    induction k with
    | zero => simp [linksTo]
    | succ k ih =>
      have := linksAt_length l k
      rw [linksTo, List.length_append]; omega
  have := ha l.length
  rw [linksL]; omega
theorem Bd.links {F : Nat → Nat → Int} : ∀ (L : List (Nat × Nat)) {M : Int} {G : Nat → Int}, (∀ e ∈ L, e.1 < 62 ∧ e.2 < 62) → Bd M G → Bd (M + 2 * L.length) (L.foldl (linkStep F) G)
  | [], M, G, _, h => h.mono (by simp)
  | e :: L, M, G, hL, h => by
    have he := hL e List.mem_cons_self
    have h1 : Bd (M + 2) (linkStep F G e) := by
      unfold linkStep
      split
      · exact ((h.relax he.1 he.2 (by omega)).relax he.2 he.1 (by omega)).mono (by omega)
      · exact (h.relax he.1 he.2 (by omega)).mono (by omega)
    exact (Bd.links L (fun x hx => hL x (List.mem_cons_of_mem _ hx)) h1).mono (by simp; omega)
theorem Bd.logs {t : List Int} (ht : t.length ≤ 30) {M : Int} {G : Nat → Int} (h : Bd M G) : ∀ k, k ≤ t.length → Bd (M + k) (logsTo t G k)
  | 0, _ => h.mono (by simp)
  | k + 1, hk => by
    have := Bd.logs ht h k (by omega)
    rw [logsTo, logStep]
    split
    · exact (this.relax (by omega) (by omega) (by omega)).mono (by omega)
    · exact (this.relax (by omega) (by omega) (by omega)).mono (by omega)

/-! what is kept beside one block -/
structure Hole (B n : Nat) (w w' : World) : Prop where
  os : w'.os = w.os
  tape : w'.tape = w.tape
  output : w'.output = w.output
  size : w.heap.size ≤ w'.heap.size
  block : ∀ k, k < n → k ≠ B → w'.heap[k]? = w.heap[k]?
theorem Hole.refl (B n : Nat) (w : World) : Hole B n w w := ⟨rfl, rfl, rfl, Nat.le_refl _, fun _ _ _ => rfl⟩
theorem Hole.of_grown {B n : Nat} {w w' : World} (h : w.grownBy w' (some B)) (hn : n ≤ w.heap.size) : Hole B n w w' := ⟨h.os, h.tape, h.output, h.size, fun k hk hB => h.block k (by omega) (fun e => hB (by cases e; rfl))⟩
theorem Hole.of_none {B n : Nat} {w w' : World} (h : w.grownBy w' none) (hn : n ≤ w.heap.size) : Hole B n w w' := ⟨h.os, h.tape, h.output, h.size, fun k hk _ => h.block k (by omega) (by simp)⟩
theorem Hole.of_below {B n m : Nat} {w w' : World} (h : Below m w w') (hn : n ≤ m) : Hole B n w w' := ⟨h.os, h.tape, h.output, h.size, fun k hk _ => h.block k (by omega)⟩
theorem Hole.trans {B n m : Nat} {a b c : World} (h : Hole B n a b) (k : Hole B m b c) (hm : n ≤ m) : Hole B n a c := ⟨k.os.trans h.os, k.tape.trans h.tape, k.output.trans h.output, Nat.le_trans h.size k.size, fun i hi hB => (k.block i (by omega) hB).trans (h.block i hi hB)⟩
theorem Hole.cell {B n : Nat} {w w' : World} (h : Hole B n w w') {p : Addr} (hp : p.block < n) (hB : p.block ≠ B) : w'.cell? p = w.cell? p := World.cell?_of_block (w := w) (h.block p.block hp hB)
theorem Hole.below {B n m : Nat} {w w' : World} (h : Hole B n w w') (hm : m ≤ n) (hB : m ≤ B) : Below m w w' := ⟨h.os, h.tape, h.output, h.size, fun k hk => h.block k (by omega) (by omega)⟩
theorem Hole.net {B M Tb n : Nat} {w w' : World} {rv : Value} {k : Nat} {F : Nat → Nat → Int} {t : List Int} {G G' : Nat → Int} (h : Hole B n w w') (hn : NetAt w B M Tb rv k F t G) (hM : M < n ∧ Tb < n)
    (hb : BoxAt w' B rv (.map (some M)) (.slice (some ⟨Tb, 0, none⟩) t.length t.length) G') : NetAt w' B M Tb rv k F t G' := by
  refine ⟨hb, ?_, (h.block Tb hM.2 (Ne.symm hn.ne.2.1)).trans hn.taken, hn.ne⟩
  obtain ⟨D, ⟨es, c, h1, h2⟩, h3⟩ := hn.flow
  exact ⟨D, ⟨es, c, (h.block M hM.1 (Ne.symm hn.ne.1)).trans h1, h2⟩, h3⟩

theorem NetAt.of_heap {W W' : World} {B M Tb : Nat} {rv : Value} {k : Nat} {F : Nat → Nat → Int} {t : List Int} {G : Nat → Int} (h : NetAt W B M Tb rv k F t G) (hB : W'.heap[B]? = W.heap[B]?) (hM : W'.heap[M]? = W.heap[M]?) (hT : W'.heap[Tb]? = W.heap[Tb]?) : NetAt W' B M Tb rv k F t G := by
  refine ⟨hB.trans h.box, ?_, hT.trans h.taken, h.ne⟩
  obtain ⟨D, ⟨es, c, h1, h2⟩, h3⟩ := h.flow
  exact ⟨D, ⟨es, c, hM.trans h1, h2⟩, h3⟩
/-! a whole array read within a block -/
theorem run_loadVar_at {P : Program} (w : World) (g o n : Nat) (ty : TypeId) (f : Nat → Int) (d : TypeDesc) (hc : ∀ j, j < n → w.cell? ⟨g, o + j, none⟩ = some (.int .i64 (f j)))
    (hu : P.underlying ty = some d) (hd : (match d with | .struct _ | .array _ _ => true | _ => false) = true) (hi : (P.info? ty).map (·.size) = some n) :
    (loadVar ty ⟨g, o, none⟩).run P w = .ok (.agg (cellsN n f)) w := by
  have hl : (loadCells ⟨g, o, none⟩ n).run P w = .ok (cellsN n f) w :=
    run_loadCells (P := P) w ⟨g, o, none⟩ n (fun j => .int .i64 (f j)) (fun j hj => by
      have e : (⟨g, o, none⟩ : Addr).add j = ⟨g, o + j, none⟩ := by unfold Addr.add; split <;> simp_all
      rw [e]; exact hc j hj)
  cases hq : P.info? ty with
  | none => simp [hq] at hi
  | some i =>
    have hs : i.size = n := by simpa [hq] using hi
    have hagg : (isAgg ty).run P w = .ok true w := by
      unfold isAgg
      rw [Sem.run_bind, run_underlying hu w]
      cases d <;> simp_all
    simp [loadVar, Sem.run_bind, hagg, sizeOf, typeInfo, hq, hs, hl]
theorem exec_load_at {P : Program} {o : Oper} {a : Act} (w : World) (ty : TypeId) (x : Operand) (ho : o.op = .load ty x) (g off n : Nat) (hx : a.eval x = .pointer (some ⟨g, off, none⟩)) (f : Nat → Int) (d : TypeDesc) (hc : ∀ j, j < n → w.cell? ⟨g, off + j, none⟩ = some (.int .i64 (f j)))
    (hu : P.underlying ty = some d) (hd : (match d with | .struct _ | .array _ _ => true | _ => false) = true) (hi : (P.info? ty).map (·.size) = some n) : (execOp a.eval o).run P w = .ok (.value (.agg (cellsN n f))) w := by
  unfold execOp
  simp only [ho, hx, Instr.loadAt, Instr.sureAddr, Sem.run_bind, Sem.run_pure, Result.andThen_ok, run_loadVar_at w g off n ty f d hc hu hd hi]
theorem wpList_load_at {P : Program} {ops : Array Oper} {rest : List Oper} {o : Oper} {a : Act} {w : World} {Q : Exit → Act → World → Prop} (hgd : o.guard = none) (ty : TypeId) (x : Operand) (ho : o.op = .load ty x)
    (g off n : Nat) (hx : a.eval x = .pointer (some ⟨g, off, none⟩)) (f : Nat → Int) (d : TypeDesc) (hc : ∀ j, j < n → w.cell? ⟨g, off + j, none⟩ = some (.int .i64 (f j)))
    (hu : P.underlying ty = some d) (hd : (match d with | .struct _ | .array _ _ => true | _ => false) = true) (hi : (P.info? ty).map (·.size) = some n)
    (h : wpList P ops Q rest (a.put o.dst (.agg (cellsN n f))) w) : wpList P ops Q (o :: rest) a w :=
  wpList_plain hgd fun _ hK => by
    unfold Oper.wp
    rw [exec_load_at w ty x ho g off n hx f d hc hu hd hi]
    exact hK _ _ h
theorem nodesInfo : (Try.prog.info? 77).map (fun i => (i.zero, i.size)) = some (some (.agg (cellsN 62 fun _ => 0)), 62) := by kernel_rfl
theorem nodes_under : Try.prog.underlying 77 = some (.array 62 3) := by kernel_rfl
theorem nodes_cells : Try.prog.cellsOf 3 = 1 := by kernel_rfl

theorem same_nodes (w : World) (f g : Nat → Int) : (Op.equalIn 10000 77 (.agg (cellsN 62 f)) (.agg (cellsN 62 g))).run Try.prog w = .ok ((List.range 62).all fun i => f i == g i) w := by
  obtain ⟨i, hi⟩ := info_of_underlying Try.underlying3
  have h := run_equalIn_array w 9999 (cellsN 62 f) (cellsN 62 g) nodes_under hi
  rw [nodes_cells, run_eqItems_ints w 9998 Try.underlying3 (cellsN 62 f) (cellsN 62 g) f g _ (fun i hi => cellsN_get _ _ (List.mem_range.1 hi)) (fun i hi => cellsN_get _ _ (List.mem_range.1 hi))] at h
  exact h
theorem quiet_take {P : Program} {ops : Array Oper} {C : World → Prop} {Q : Act → Prop} {a : Act} {o : Oper} {rest : List Oper} {v : Value} (hw : Region.wanted o (yielded ops a.tmps) = true) (hy : ∀ w, C w → (execOp a.eval o).run P w = .ok (.value v) w)
    (h : wpQuiet P ops C Q rest (a.put o.dst v)) : wpQuiet P ops C Q (o :: rest) a :=
  wpQuiet_step fun K hK => by
    rw [if_pos hw]
    refine ⟨v, fun w hC => ?_, hK _ h⟩
    unfold Oper.quietAt
    rw [hy w hC]
    exact ⟨rfl, rfl⟩
/-- marks that a function leaves with -/
def MarksOk (ds : List Deferred) (rs : List Nat) : Prop := ds = rs.map fun r => { target := .collected r, args := #[] }
theorem leaves_marks {fn : Func} {tmps : Array Value} {R : Ending → World → Prop} {n : Nat} (v : Value) : ∀ (rs : List Nat) (W : World), rs.Nodup → (∀ r ∈ rs, W.heap[r]? = some (.deferred (some []))) →
    (∀ W', (∀ k, k ∉ rs → W'.heap[k]? = W.heap[k]?) → W'.os = W.os → W'.tape = W.tape → W'.output = W.output → W'.heap.size = W.heap.size → (results fn tmps).run Try.prog W' = .ok v W' ∧ R (.returned v) W') →
    LeavesInM Fence.wide n Try.prog fn tmps R (rs.map fun r => { target := .collected r, args := #[] }) .returning W
  | [], W, _, _, h => by
    obtain ⟨h1, h2⟩ := h W (fun _ _ => rfl) rfl rfl rfl rfl
    exact ⟨_, h1, h2⟩
  | r :: rs, W, hd, hr, h => by
    obtain ⟨hd1, hd2⟩ := List.nodup_cons.1 hd
    have hr0 := hr r List.mem_cons_self
    have hlt : r < W.heap.size := heap_lt hr0
    refine ⟨by simp, .inl ⟨r, W.putObj r (.deferred none), rfl, run_takeDeferred hr0, leaves_marks v rs _ hd2 (fun r' h' => ?_) fun W' hk ho ht hu hs => ?_⟩⟩
    · rw [World.putObj_heap_other (fun e => hd1 (by subst e; exact h'))]
      exact hr r' (List.mem_cons_of_mem _ h')
    · refine h W' (fun k hk' => ?_) (ho.trans rfl) (ht.trans rfl) (hu.trans rfl) (hs.trans (by simp [World.putObj]))
      rw [hk k (fun h' => hk' (List.mem_cons_of_mem _ h')), World.putObj_heap_other (fun e => hk' (by subst e; exact List.mem_cons_self))]

theorem BoxAt.clear {W : World} {B : Nat} {rv mv tv : Value} {G : Nat → Int} (h : BoxAt W B rv mv tv G) (o n : Nat) (hn : o + n ≤ 186) :
    BoxAt (W.setCells B (3 + o) (List.replicate n (.int .i64 0))) B rv mv tv (fun j => if o ≤ j ∧ j < o + n then 0 else G j) := by
  unfold BoxAt
  rw [setCells_row _ W B (3 + o) _ _ _ h, setRow_heap W B _ _ _ _ h]
  refine congrArg (fun cs => some (Obj.cells cs 81 (0, 0))) ?_
  apply Array.ext_getElem?
  intro j
  rw [ovr_get _ _ _ _ (by rw [netC_size]; simp; omega)]
  by_cases hj : j < 3
  · rw [if_neg (by omega), netC, netC, Array.getElem?_append_left (by simpa using hj), Array.getElem?_append_left (by simpa using hj)]
  · by_cases hj2 : j < 189
    · obtain ⟨i, rfl⟩ : ∃ i, j = 3 + i := ⟨j - 3, by omega⟩
      rw [netC_get _ _ _ _ i (by omega), netC_get _ _ _ _ i (by omega)]
      by_cases hi : o ≤ i ∧ i < o + n
      · rw [if_pos (by simp; omega), if_pos hi, List.getElem?_replicate, if_pos (by omega)]
      · rw [if_neg (by simp; omega), if_neg hi]
    · rw [if_neg (by simp; omega), Array.getElem?_eq_none (by rw [netC_size]; omega), Array.getElem?_eq_none (by rw [netC_size]; omega)]
theorem BoxAt.ext {W : World} {B : Nat} {rv mv tv : Value} {G G' : Nat → Int} (h : BoxAt W B rv mv tv G) (he : ∀ j, j < 186 → G j = G' j) : BoxAt W B rv mv tv G' := by
  unfold BoxAt at h ⊢
  rw [h, netC, netC, cellsN_ext he]
theorem BoxAt.grown {W W' : World} {B : Nat} {rv mv tv : Value} {G : Nat → Int} (h : BoxAt W B rv mv tv G) (hg : W.grownBy W' none) : BoxAt W' B rv mv tv G := (hg.block B (heap_lt h) (by simp)).trans h
theorem grown_setCells : ∀ (vs : List Value) (w : World) (B o : Nat), w.grownBy (w.setCells B o vs) (some B)
  | [], w, B, o => World.grownBy.refl w _
  | v :: vs, w, B, o => (grown_set w B o v).trans (grown_setCells vs _ B (o + 1))
theorem clear_box {W : World} {B : Nat} {rv mv tv : Value} {G : Nat → Int} (h : BoxAt W B rv mv tv G) (o n : Nat) (hn : 0 < n) (ho : o + n ≤ 186) (ty : TypeId) :
    (Builtin.clear_ #[23] ty #[.slice (some ⟨B, 3 + o, none⟩) n n]).run Try.prog W = .ok (.tuple #[]) (W.setCells B (3 + o) (List.replicate n (.int .i64 0))) :=
  Lib.run_clear_slice W 23 3 ty (.int .i64 0) Try.underlying23 (fun _ => by kernel_rfl) rfl rfl B (3 + o) n n hn
    (fun j hj => by rw [show 3 + o + j = 3 + (o + j) by omega, h.cell (o + j) (by omega)]; rfl) (fun j _ => h.free _)
theorem cleared {W : World} {B : Nat} {rv mv tv : Value} {G : Nat → Int} (h : BoxAt W B rv mv tv G) (o n : Nat) (hn : 0 < n) (ho : o + n ≤ 186) :
    ∃ W', (∀ ty, (Builtin.clear_ #[23] ty #[.slice (some ⟨B, 3 + o, none⟩) n n]).run Try.prog W = .ok (.tuple #[]) W') ∧ BoxAt W' B rv mv tv (fun j => if o ≤ j ∧ j < o + n then 0 else G j) ∧ W.grownBy W' (some B) :=
  ⟨_, fun ty => clear_box h o n hn ho ty, h.clear o n ho, grown_setCells _ _ _ _⟩
theorem init_step (G0 : Nat → Int) (j q : Nat) : upd (fun q => if q < j then farI else if q < 62 then G0 q else 0) j farI q = if q < j + 1 then farI else if q < 62 then G0 q else 0 := by
  unfold upd
  by_cases e : q = j
  · simp [e]
  · by_cases e2 : q < j
    · simp [e, e2, show q < j + 1 by omega]
    · simp [e, e2, show ¬ q < j + 1 by omega]
theorem init_last (G0 : Nat → Int) (q : Nat) : upd (fun q => if q < 62 then farI else if q < 62 then G0 q else 0) 0 0 q = if q = 0 then 0 else if q < 62 then farI else 0 := by
  unfold upd
  by_cases e : q = 0
  · simp [e]
  · by_cases e2 : q < 62 <;> simp [e, e2]
/-- a link within the net -/
abbrev End := { e : Nat × Nat // e.1 < 62 ∧ e.2 < 62 }
def linksE (l : List Int) (hl : l.length ≤ 30) : List End := (linksL l).attach.map fun e => ⟨e.1, links_lt hl e.1 e.2⟩
theorem linksE_val (l : List Int) (hl : l.length ≤ 30) : (linksE l hl).map (fun x => x.1) = linksL l := by
  rw [linksE, List.map_map]
  exact List.attach_map_subtype_val _
theorem boxAt_kept {X Y : World} {B n : Nat} {rv mv tv : Value} {G : Nat → Int} {row : Option Nat} (hB : B < n) (hs : BoxAt X B rv mv tv G) (hg : X.grownBy Y row) (hr : ∀ r, row = some r → n ≤ r ∧ ∃ o : Obj, X.heap[r]? = some o ∧ o.isCells = false) : BoxAt Y B rv mv tv G :=
  (hg.block B (heap_lt hs) (fun e => by have := (hr B e.symm).1; omega)).trans hs
theorem hole_own {β : Type} {B n m : Nat} (W1 : World) (h : n ≤ m) (hn : n ≤ W1.heap.size) : OwnFrom m (fun (_ : β) W => Hole B n W1 W) := fun s X Y row hs hg hr =>
  ⟨hg.os.trans hs.os, hg.tape.trans hs.tape, hg.output.trans hs.output, Nat.le_trans hs.size hg.size, fun k hk hkB =>
    (hg.block k (by have := hs.size; omega) (fun e => by have := (hr k e.symm).1; omega)).trans (hs.block k hk hkB)⟩
theorem keepB_put {B : Nat} {W : World} {l : Nat} {o : Obj} (o' : Obj) (h : W.heap[l]? = some o) (hc : o.isCells = false) : KeepB B W (W.putObj l o') :=
  ⟨fun a v _ hv => Go.cell_kept hv (grownBy_putObj' W l o') (fun r e => by cases e; exact ⟨o, h, hc⟩), fun v hv => Go.cell_kept hv (grownBy_putObj' W l o') (fun r e => by cases e; exact ⟨o, h, hc⟩), (grownBy_putObj' W l o').size⟩
theorem keepB_grown {B : Nat} {W W' : World} {rv mv tv : Value} {G G' : Nat → Int} (hg : W.grownBy W' (some B)) (h : BoxAt W B rv mv tv G) (h' : BoxAt W' B rv mv tv G') : KeepB B W W' :=
  ⟨fun a v ha hv => hg.cell hv (fun e => ha (by cases e; rfl)), fun v hv => by rw [h.c0] at hv; rw [h'.c0]; exact hv, hg.size⟩
/-- the cells of a search at a round's head -/
def AtHead (w : World) (B M Tb b1 b3 kF : Nat) (rv : Value) (F : Nat → Nat → Int) (t : List Int) (G : Nat → Int) (rs : List Nat) (W : World) : Prop :=
  NetAt W B M Tb rv kF F t G ∧ Hole B w.heap.size w W ∧ W.cell? ⟨b1, 0, none⟩ = some (.pointer (some ⟨B, 0, none⟩)) ∧ W.cell? ⟨b3, 0, none⟩ = some (.func (.func 78) #[.pointer (some ⟨B, 0, none⟩)] #[]) ∧
    rs.Nodup ∧ (∀ r ∈ rs, w.heap.size ≤ r ∧ W.heap[r]? = some (.deferred (some []))) ∧ b1 ≠ B ∧ b3 ≠ B ∧ w.heap.size ≤ b1 ∧ w.heap.size ≤ b3

set_option maxHeartbeats 8000000 in
set_option maxRecDepth 100000 in
theorem search_any (B M Tb kF : Nat) (A : Option Addr) (c : Nat) (l : List Int) (F : Nat → Nat → Int) (t : List Int) (G0 G : Nat → Int) (k : Nat) (w : World) (h : NetAt w B M Tb (.slice A l.length c) kF F t G0) (w00 : World) (hr : Kd.C (Kd.int .i64) w00 A l.length l) (hc : l.length ≤ c) (hl : l.length ≤ 30) (ht : t.length = l.length)
    (hw0 : Below w00.heap.size w00 w) (hwB : w00.heap.size ≤ B ∧ w00.heap.size ≤ M ∧ w00.heap.size ≤ Tb) (hk : k < 1000000000)
    (hs : searchN l F t k (fun j => if j = 0 then 0 else if j < 62 then farI else 0) = some G) :
    Calls Try.prog 70 #[.pointer (some ⟨B, 0, none⟩)] w
      fun e w' => e = .returned (.tuple #[]) ∧ NetAt w' B M Tb (.slice A l.length c) kF F t G ∧ Hole B w.heap.size w w' := by
  have HB := Lib.hid h
  clear h
  refine (callsIn_wide (n := 9)).1 (callsIn_of_wp_marks Try.func70 rfl trivial (wpIn_wide.2 ?_) rfl)
  simp only [Try.ntmps70, List.size_toArray, List.length_cons, List.length_nil, Nat.reduceAdd, Nat.reduceSub, Array.replicate_succ, Array.replicate_zero, List.push_toArray, List.append_toArray, List.nil_append, List.cons_append]
  obtain ⟨W, hW⟩ : ∃ W, W = w.alloc (.cells #[.pointer (some ⟨B, 0, none⟩)] 56) := ⟨_, rfl⟩
  have hb1 : Below w.heap.size w W := by rw [hW]; exact (Below.refl _ _).alloc (Nat.le_refl _) _
  have e1 : W.cell? ⟨w.heap.size, 0, none⟩ = some (.pointer (some ⟨B, 0, none⟩)) := by rw [hW]; simp [go_sem]
  go_upto_region 1 with fail
  rw [← hW]
  clear hW
  have hBx := HB.out.box
  have hB1 : BoxAt W B _ _ _ G0 := heap_of_below hb1 (heap_lt hBx) hBx
  obtain ⟨W2, hc1, hB2, hg2⟩ := cleared hB1 62 62 (by omega) (by omega)
  replace hc1 : ∀ ty, (Builtin.clear_ #[23] ty #[.slice (some ⟨B, 65, none⟩) 62 62]).run Try.prog W = .ok (.tuple #[]) W2 := hc1
  go_upto_region 2 with fail
  have q1 := hg2.cell e1 (by simp; exact fun e => absurd e (Nat.ne_of_gt (heap_lt hBx)))
  obtain ⟨W3, hc2, hB3, hg3⟩ := cleared hB2 124 62 (by omega) (by omega)
  replace hc2 : ∀ ty, (Builtin.clear_ #[23] ty #[.slice (some ⟨B, 127, none⟩) 62 62]).run Try.prog W2 = .ok (.tuple #[]) W3 := hc2
  clear hc1 e1
  have r1 := hg3.cell q1 (by simp; exact fun e => absurd e (Nat.ne_of_gt (heap_lt hBx)))
  have HLT := Lib.hid (heap_lt hBx)
  have HG3 := Lib.hid (((Hole.of_below hb1 (Nat.le_refl _) : Hole B w.heap.size w W).trans (Hole.of_grown hg2 hb1.size) (Nat.le_refl _)).trans (Hole.of_grown hg3 (Nat.le_trans hb1.size hg2.size)) (Nat.le_refl _))
  have HS3 : Hid (w.heap.size < W3.heap.size) := Lib.hid (by have := hg2.size; have := hg3.size; exact cell_size r1)
  have HB3 := Lib.hid (hB3.ext (G' := fun j => if j < 62 then G0 j else 0) (fun j hj => by
    by_cases h1 : j < 62
    · rw [if_neg (by omega), if_neg (by omega), if_pos h1]
    · rw [if_neg h1]
      by_cases h2 : 124 ≤ j
      · rw [if_pos ⟨h2, by omega⟩]
      · rw [if_neg (by omega), if_pos (by omega)]))
  clear hBx hB1 hB2 hB3 hg2 hg3 hb1
  go_upto_region 3 with fail
  clear hc2 q1
  go_wp2_with fail
  have HR1 := Lib.hid r1
  clear r1
  go_loopw [18] (fun i wr => ∃ j : Nat, j ≤ 62 ∧ i = .int .i64 j ∧ Hid (BoxAt wr B (.slice A l.length c) (.map (some M)) (.slice (some ⟨Tb, 0, none⟩) t.length t.length) (fun q => if q < j then farI else if q < 62 then G0 q else 0) ∧ W3.grownBy wr (some B))) (fun i _ => 100 - (intOf i).toNat)
  case atStart => exact ⟨0, by omega, rfl, Lib.hid ⟨HB3.out.ext (fun j hj => by simp), World.grownBy.refl _ _⟩⟩
  case round =>
    obtain ⟨j, hj, rfl, HJ⟩ := hrel
    have hp := HJ.out.2.cell HR1.out (by simp; exact fun e => absurd e (Nat.ne_of_gt HLT.out))
    by_cases hlt : j < 62
    · have hlti : (j : Int) < 62 := by omega
      have j0 : (0 : Int) ≤ (j : Int) := by omega
      have cj := HJ.out.1.cell j (by omega)
      have fj := HJ.out.1.free (3 + j)
      have HN := Lib.hid (And.intro ((HJ.out.1.set j farI (by omega)).ext (G' := fun q => if q < j + 1 then farI else if q < 62 then G0 q else 0) (fun q _ => init_step G0 j q)) (HJ.out.2.trans (grown_set wr B (3 + j) (.int .i64 farI))))
      go_wp2
      go_roundw
      case rel => exact ⟨j + 1, by omega, by go_num, HN⟩
      case measure => simp [intOf]; omega
    · have hnl : ¬ (j : Int) < 62 := by omega
      obtain rfl : j = 62 := by omega
      have c0 := HJ.out.1.cell 0 (by omega)
      have f0 := HJ.out.1.free 3
      rw [if_pos (by omega)] at c0
      obtain ⟨W4, hW4⟩ : ∃ W4, W4 = wr.setCell ⟨B, 3, none⟩ (.int .i64 0) := ⟨_, rfl⟩
      have HB4 := Lib.hid ((HJ.out.1.set 0 0 (by omega)).ext (G' := fun j => if j = 0 then 0 else if j < 62 then farI else 0) (fun q _ => init_last G0 q))
      have HG4 := Lib.hid (HJ.out.2.trans (grown_set wr B 3 (.int .i64 0)))
      have hp4 := (grown_set wr B 3 (.int .i64 0)).cell hp (by simp; exact fun e => absurd e (Nat.ne_of_gt HLT.out))
      rw [show (3 + 0 : Nat) = 3 from rfl] at HB4
      rw [← hW4] at HB4 HG4 hp4
      go_upto_region 9 with fail
      rw [← hW4]
      clear hW4 c0 f0 hp HJ
      obtain ⟨W5, hW5⟩ : ∃ W5, W5 = W4.alloc (.cells #[.func (.func 78) #[.pointer (some ⟨B, 0, none⟩)] #[]] 91) := ⟨_, rfl⟩
      have hb5 : Below W4.heap.size W4 W5 := by rw [hW5]; exact (Below.refl _ _).alloc (Nat.le_refl _) _
      have e3 : W5.cell? ⟨W4.heap.size, 0, none⟩ = some (.func (.func 78) #[.pointer (some ⟨B, 0, none⟩)] #[]) := by rw [hW5]; simp [go_sem]
      have e1 : W5.cell? ⟨w.heap.size, 0, none⟩ = some (.pointer (some ⟨B, 0, none⟩)) := (hb5.cell (cell_size hp4)).trans hp4
      have hG5 : Hole B w.heap.size w W5 := ((HG3.out.trans (Hole.of_grown HG4.out (Nat.le_of_lt HS3.out)) (Nat.le_refl _)).trans (Hole.of_below hb5 (Nat.le_trans (Nat.le_of_lt HS3.out) HG4.out.size)) (Nat.le_refl _))
      have hB5 : BoxAt W5 B (.slice A l.length c) (.map (some M)) (.slice (some ⟨Tb, 0, none⟩) t.length t.length) (fun j => if j = 0 then 0 else if j < 62 then farI else 0) := HB4.out.grown (grown_of_keep hb5)
      have hAt : AtHead w B M Tb w.heap.size W4.heap.size kF (.slice A l.length c) F t (fun j => if j = 0 then 0 else if j < 62 then farI else 0) [] W5 :=
        ⟨hG5.net HB.out ⟨HB.out.flow.lt, heap_lt HB.out.taken⟩ hB5, hG5, e1, e3, List.nodup_nil, fun r hr => absurd hr List.not_mem_nil, Nat.ne_of_gt HLT.out, by have := HLT.out; have := HS3.out; have := HG4.out.size; omega, Nat.le_refl _, by have := HS3.out; have := HG4.out.size; omega⟩
      go_wp2_with fail
      rw [← hW5]
      obtain ⟨b1, hb1⟩ : ∃ b1, b1 = w.heap.size := ⟨_, rfl⟩
      obtain ⟨b3, hb3⟩ : ∃ b3, b3 = W4.heap.size := ⟨_, rfl⟩
      have HAT : Hid (AtHead w B M Tb b1 b3 kF (.slice A l.length c) F t (fun j => if j = 0 then 0 else if j < 62 then farI else 0) [] W5) := Lib.hid (by rw [hb1, hb3]; exact hAt)
      rw [← hb1, ← hb3]
      have HSN := Lib.hid hs
      have HK := Lib.hid hk
      have HRR := Lib.hid hr
      have HWW := Lib.hid (And.intro hw0 hwB)
      have HT := Lib.hid ht
      clear hW5 hb5 e3 e1 hG5 hB5 hAt hb1 hb3 hs hk hr ht hw0 hwB HB4 HG4 hp4 HR1 HG3 HS3 HB3
      refine wp_loop_ghost_k (fun k' a W' => ∃ u2 u4 u5 u6 u7 u8 u9 u10 u11 u12 u13 u14 u15 u16 u17 u18 u19 u20 u21 u22 u23 u24 u25 u26 u27 u28 u29 u30 u31 u32 u33 u34 u35 u36 u37 u38 u39 u40 u41 u42 u43 u44 u45 u46 u47 u48 u49 u50 u51 u52 u53 u54 u55 u56 u57 u58 u59 u60 u61 u62 u63 u64 u65 u66 u67 u68 u69 u70 u71 u72 u73 u74 u75 u76 u77 u78 u79 u80 u81 u82 u83 u84 u85 u86 u87 u88 u89 u90 u91 u92 u93 u94 u95 u96 u97 : Value, ∃ ds rs, a = { tmps := #[.pointer (some ⟨B, 0, none⟩), .pointer (some ⟨b1, 0, none⟩), u2, .pointer (some ⟨b3, 0, none⟩), u4, u5, u6, u7, u8, u9, u10, u11, u12, u13, u14, u15, u16, u17, u18, u19, u20, u21, u22, u23, u24, u25, u26, u27, u28, u29, u30, u31, u32, u33, u34, u35, u36, u37, u38, u39, u40, u41, u42, u43, u44, u45, u46, u47, u48, u49, u50, u51, u52, u53, u54, u55, u56, u57, u58, u59, u60, u61, u62, u63, u64, u65, u66, u67, u68, u69, u70, u71, u72, u73, u74, u75, u76, u77, u78, u79, u80, u81, u82, u83, u84, u85, u86, u87, u88, u89, u90, u91, u92, u93, u94, u95, u96, u97], defers := ds } ∧ MarksOk ds rs ∧ Hid (∃ G', AtHead w B M Tb b1 b3 kF (.slice A l.length c) F t G' rs W' ∧ searchN l F t k' G' = some G ∧ k' ≤ k ∧ Bd (3000 * ((k : Int) - k')) G')) k ?h0 ?round
      case h0 =>
        (repeat apply Exists.intro)
        exact ⟨rfl, (show MarksOk [] [] from rfl), Lib.hid ⟨_, HAT.out, HSN.out, Nat.le_refl _, fun j hj => by
          by_cases e : j = 0
          · simp [e]
          · simp [e, hj, farI]⟩⟩
      case round =>
        intro k' a0 W0 hinv J K hJ hK
        obtain ⟨u2, hinv⟩ := hinv
        obtain ⟨u4, hinv⟩ := hinv
        obtain ⟨u5, hinv⟩ := hinv
        obtain ⟨u6, hinv⟩ := hinv
        obtain ⟨u7, hinv⟩ := hinv
        obtain ⟨u8, hinv⟩ := hinv
        obtain ⟨u9, hinv⟩ := hinv
        obtain ⟨u10, hinv⟩ := hinv
        obtain ⟨u11, hinv⟩ := hinv
        obtain ⟨u12, hinv⟩ := hinv
        obtain ⟨u13, hinv⟩ := hinv
        obtain ⟨u14, hinv⟩ := hinv
        obtain ⟨u15, hinv⟩ := hinv
        obtain ⟨u16, hinv⟩ := hinv
        obtain ⟨u17, hinv⟩ := hinv
        obtain ⟨u18, hinv⟩ := hinv
        obtain ⟨u19, hinv⟩ := hinv
        obtain ⟨u20, hinv⟩ := hinv
        obtain ⟨u21, hinv⟩ := hinv
        obtain ⟨u22, hinv⟩ := hinv
        obtain ⟨u23, hinv⟩ := hinv
        obtain ⟨u24, hinv⟩ := hinv
        obtain ⟨u25, hinv⟩ := hinv
        obtain ⟨u26, hinv⟩ := hinv
        obtain ⟨u27, hinv⟩ := hinv
        obtain ⟨u28, hinv⟩ := hinv
        obtain ⟨u29, hinv⟩ := hinv
        obtain ⟨u30, hinv⟩ := hinv
        obtain ⟨u31, hinv⟩ := hinv
        obtain ⟨u32, hinv⟩ := hinv
        obtain ⟨u33, hinv⟩ := hinv
        obtain ⟨u34, hinv⟩ := hinv
        obtain ⟨u35, hinv⟩ := hinv
        obtain ⟨u36, hinv⟩ := hinv
        obtain ⟨u37, hinv⟩ := hinv
        obtain ⟨u38, hinv⟩ := hinv
        obtain ⟨u39, hinv⟩ := hinv
        obtain ⟨u40, hinv⟩ := hinv
        obtain ⟨u41, hinv⟩ := hinv
        obtain ⟨u42, hinv⟩ := hinv
        obtain ⟨u43, hinv⟩ := hinv
        obtain ⟨u44, hinv⟩ := hinv
        obtain ⟨u45, hinv⟩ := hinv
        obtain ⟨u46, hinv⟩ := hinv
        obtain ⟨u47, hinv⟩ := hinv
        obtain ⟨u48, hinv⟩ := hinv
        obtain ⟨u49, hinv⟩ := hinv
        obtain ⟨u50, hinv⟩ := hinv
        obtain ⟨u51, hinv⟩ := hinv
        obtain ⟨u52, hinv⟩ := hinv
        obtain ⟨u53, hinv⟩ := hinv
        obtain ⟨u54, hinv⟩ := hinv
        obtain ⟨u55, hinv⟩ := hinv
        obtain ⟨u56, hinv⟩ := hinv
        obtain ⟨u57, hinv⟩ := hinv
        obtain ⟨u58, hinv⟩ := hinv
        obtain ⟨u59, hinv⟩ := hinv
        obtain ⟨u60, hinv⟩ := hinv
        obtain ⟨u61, hinv⟩ := hinv
        obtain ⟨u62, hinv⟩ := hinv
        obtain ⟨u63, hinv⟩ := hinv
        obtain ⟨u64, hinv⟩ := hinv
        obtain ⟨u65, hinv⟩ := hinv
        obtain ⟨u66, hinv⟩ := hinv
        obtain ⟨u67, hinv⟩ := hinv
        obtain ⟨u68, hinv⟩ := hinv
        obtain ⟨u69, hinv⟩ := hinv
        obtain ⟨u70, hinv⟩ := hinv
        obtain ⟨u71, hinv⟩ := hinv
        obtain ⟨u72, hinv⟩ := hinv
        obtain ⟨u73, hinv⟩ := hinv
        obtain ⟨u74, hinv⟩ := hinv
        obtain ⟨u75, hinv⟩ := hinv
        obtain ⟨u76, hinv⟩ := hinv
        obtain ⟨u77, hinv⟩ := hinv
        obtain ⟨u78, hinv⟩ := hinv
        obtain ⟨u79, hinv⟩ := hinv
        obtain ⟨u80, hinv⟩ := hinv
        obtain ⟨u81, hinv⟩ := hinv
        obtain ⟨u82, hinv⟩ := hinv
        obtain ⟨u83, hinv⟩ := hinv
        obtain ⟨u84, hinv⟩ := hinv
        obtain ⟨u85, hinv⟩ := hinv
        obtain ⟨u86, hinv⟩ := hinv
        obtain ⟨u87, hinv⟩ := hinv
        obtain ⟨u88, hinv⟩ := hinv
        obtain ⟨u89, hinv⟩ := hinv
        obtain ⟨u90, hinv⟩ := hinv
        obtain ⟨u91, hinv⟩ := hinv
        obtain ⟨u92, hinv⟩ := hinv
        obtain ⟨u93, hinv⟩ := hinv
        obtain ⟨u94, hinv⟩ := hinv
        obtain ⟨u95, hinv⟩ := hinv
        obtain ⟨u96, hinv⟩ := hinv
        obtain ⟨u97, hinv⟩ := hinv
        obtain ⟨ds, rs, rfl, hds, HI⟩ := hinv
        obtain ⟨G', hat, hsn, hkk, hbd⟩ := HI.out
        obtain ⟨k'', rfl⟩ : ∃ k'', k' = k'' + 1 := by
          cases k' with
          | zero => cases hsn
          | succ q => exact ⟨q, rfl⟩
        have e1 := hat.2.2.1
        have hcells : ∀ j, j < 62 → W0.cell? ⟨B, 3 + j, none⟩ = some (.int .i64 (G' j)) := fun j hj => hat.1.box.cell j (by omega)
        obtain ⟨hz, hsz⟩ := zero_of_info nodesInfo
        have hst := run_storeCells_new (P := Try.prog) W0 77 (cellsN 62 fun _ => 0) (cellsN 62 G') (by rw [cellsN_size]; exact hsz) (by rw [cellsN_size, cellsN_size]) (cellsN_one _ _)
        have hb10 : Below W0.heap.size W0 (W0.alloc (.cells (cellsN 62 G') 77)) := (Below.refl _ _).alloc (Nat.le_refl _) _
        have e1' := (hb10.cell (cell_size e1)).trans e1
        have HH := Lib.hid (And.intro hat (And.intro hsn (And.intro hkk hbd)))
        have HCE := Lib.hid hcells
        have HSZ := Lib.hid hsz
        clear hat hsn hkk hbd HI hcells hb10 hsz
        go_wp2_with (first | (refine wpList_load_at rfl 77 (.tmp 38) rfl B 3 62 rfl G' _ HCE.out nodes_under rfl HSZ.out ?_) | (go_at_call 79; refine (links_any _ _).mono ?_; rintro e w' ⟨rfl, rfl⟩))
        obtain ⟨W1, hW1⟩ : ∃ W1, W1 = (W0.alloc (.cells (cellsN 62 G') 77)).alloc (.cells #[.pointer (some ⟨B, 0, none⟩)] 56) := ⟨_, rfl⟩
        rw [← hW1]
        have hz1 : W1.heap.size = W0.heap.size + 2 := by rw [hW1]; simp
        have hb11 : Below W0.heap.size W0 W1 := by rw [hW1]; exact ((Below.refl _ _).alloc (Nat.le_refl _) _).alloc (by simp) _
        have hwas : W1.heap[W0.heap.size]? = some (.cells (cellsN 62 G') 77 (0, 0)) := by
          rw [hW1]; exact heap_past (heap_alloc_last _ _) _
        have hptr : W1.cell? ⟨W0.heap.size + 1, 0, none⟩ = some (.pointer (some ⟨B, 0, none⟩)) := by
          have := cell_of_row W1 (W0.heap.size + 1) 0 #[.pointer (some ⟨B, 0, none⟩)] 56 (0, 0) (by rw [hW1]; have := heap_alloc_last (W0.alloc (.cells (cellsN 62 G') 77)) (.cells #[.pointer (some ⟨B, 0, none⟩)] 56); rw [World.size_alloc] at this; exact this)
          rw [this]; rfl
        have hnet1 := HH.out.1.1.below hb11
        have hbw : Below w00.heap.size w00 W1 := (HWW.out.1.trans (HH.out.1.2.1.below HWW.out.1.size HWW.out.2.1)).trans (hb11.mono (Nat.le_trans HWW.out.1.size HH.out.1.2.1.size))
        have hrow1 := Kd.C_below HRR.out hbw
        have hAB : 0 < l.length → ∀ ad, A = some ad → ad.block ≠ B := fun hp ad e => by
          obtain ⟨ad', e', hx⟩ := Kd.at_int HRR.out 0 (by omega) (by omega)
          have h1 := cell_size hx
          rw [e] at e'
          cases e'
          rw [blk_add] at h1
          have := HWW.out.2.1
          omega
        obtain ⟨LE, hLE⟩ : ∃ LE : List End, LE.map (fun x => x.1) = linksL l := ⟨linksE l hl, linksE_val l hl⟩
        have HSEQ := Lib.hid (links_stops (α := End) (fun x => x.1) LE l hLE A c (W0.heap.size + 1) B w00.heap.size W1 hl hc hrow1 (by rw [hz1]; have := HWW.out.1.size; have := HH.out.1.2.1.size; omega) hAB (by have := heap_lt HH.out.1.1.box; omega) hptr hnet1.box.c0 8)
        have HW1 := Lib.hid (And.intro hz1 (And.intro hb11 (And.intro hwas (And.intro hnet1 hbw))))
        have HLE := Lib.hid hLE
        clear hLE hW1 hz1 hb11 hwas hptr hnet1 hbw hrow1 hAB e1 e1' hst hz
        refine (wpIn_wide (n := 9)).1 ?_
        refine wpIn_rangeFunc_ownH (F := Fence.wide) (α := End) (encs := fun x : End => endEnc x.1) (Kp := KeepB B) (S := fun xs : List End => xs = LE) (Sp := fun pre : List End => pre <+: LE) (N := LE.length) (w0 := W1) rfl (by decide) (gf := 80) (lb := #[.pointer (some ⟨W0.heap.size + 1, 0, none⟩)]) rfl trivial (enters_of Try.func80 (by kernel_rfl) rfl)
          HSEQ.out (fun h k => h.trans k) ?keepb (Below.refl _ _) (fun _ => rfl)
          (fun (pre : List End) W' => BoxAt W' B (.slice A l.length c) (.map (some M)) (.slice (some ⟨Tb, 0, none⟩) t.length t.length) ((pre.map (fun x => x.1)).foldl (linkStep F) G') ∧ Hole B W1.heap.size W1 W')
          (fun _ _ _ => False)
          ?own
          (fun _ _ _ _ _ hs _ _ => hs)
          ?start
          (fun (x : End) a' W' => ∃ Bx, W1.heap.size ≤ Bx ∧ W'.heap[Bx]? = some (.cells #[.int .i64 (x.1.1 : Int), .int .i64 (x.1.2 : Int)] 84 (0, 0)) ∧
            a' = { tmps := #[.pointer (some ⟨B, 0, none⟩), .pointer (some ⟨b1, 0, none⟩), u2, .pointer (some ⟨b3, 0, none⟩), .pointer (some ⟨W0.heap.size, 0, none⟩), .pointer (some ⟨Bx, 0, none⟩), u6, u7, u8, u9, u10, u11, u12, u13, u14, u15, u16, u17, u18, u19, u20, u21, u22, u23, u24, u25, u26, u27, u28, u29, u30, u31, u32, u33, u34, .pointer (some ⟨B, 0, none⟩), .pointer (some ⟨B, 0, none⟩), .pointer (some ⟨B, 3, none⟩), .pointer (some ⟨B, 3, none⟩), .agg (cellsN 62 G'), .pointer (some ⟨B, 0, none⟩), .func (.func 80) #[] #[.pointer (some ⟨W0.heap.size + 1, 0, none⟩)], .agg #[.int .i64 (x.1.1 : Int), .int .i64 (x.1.2 : Int)], u43, u44, u45, u46, u47, u48, u49, u50, u51, u52, u53, u54, u55, u56, u57, u58, u59, u60, u61, u62, u63, u64, u65, u66, u67, u68, u69, u70, u71, u72, u73, u74, u75, u76, u77, u78, u79, u80, u81, u82, u83, u84, u85, u86, u87, u88, u89, u90, u91, u92, u93, u94, u95, u96, u97], defers := [] })
          ?ax ?assign ?body ?done ?stop
        case own => exact fun s X Y row hs hg hr => ⟨boxAt_kept (heap_lt HW1.out.2.2.2.1.box) hs.1 hg hr, hole_own (β := Unit) W1 (Nat.le_refl _) (Nat.le_refl _) () X Y row hs.2 hg hr⟩
        case start => exact ⟨by rw [List.map_nil, List.foldl_nil]; exact HW1.out.2.2.2.1.box, Hole.refl _ _ _⟩
        case keepb => exact fun W' lo o o' _ h1 h2 _ => keepB_put o' h1 h2
        case ax =>
          rintro x a' _ X Y row ⟨Bx, hx1, hx2, rfl⟩ hg hr
          exact ⟨Bx, hx1, (hg.block Bx (heap_lt hx2) (fun e => by obtain ⟨_, o, ho, hc⟩ := hr Bx e.symm; rw [hx2] at ho; cases ho; cases hc)).trans hx2, rfl⟩
        case assign =>
          rintro lo pre x W' K ⟨hi1, hi2⟩ hK
          dsimp only [endEnc, endV]
          gi_wp2
          have hb := (Below.refl W'.heap.size W').alloc (Nat.le_refl _) (.cells #[.int .i64 (x.1.1 : Int), .int .i64 (x.1.2 : Int)] 84)
          refine hK _ _ (KeepsFrom.of_grownBy (World.grownBy_alloc _ _ none) (fun j e => by cases e)) (KeepB.of_below hb) ⟨hi1.grown (grown_of_keep hb), hi2.trans (Hole.of_below hb hi2.size) (Nat.le_refl _)⟩ ⟨W'.heap.size, hi2.size, heap_alloc_last _ _, rfl⟩
        case body =>
          rintro lo pre x a' W' hlo ⟨rec, hrec⟩ ⟨hi1, hi2⟩ ⟨Bx, hx1, hx2, rfl⟩ hlen
          obtain ⟨⟨eu, ev⟩, hx62⟩ := x
          simp only at hx62 hx2
          have hb1' : Hole B w.heap.size w W' := (HH.out.1.2.1.trans (Hole.of_below HW1.out.2.1 HH.out.1.2.1.size) (Nat.le_refl _)).trans hi2 (by have := HH.out.1.2.1.size; have := HW1.out.1; omega)
          have hmove : ∀ (p : Addr) (v : Value), p.block ≠ B → W0.cell? p = some v → W'.cell? p = some v := fun p v hp hv => by
            have h1 := cell_size hv
            rw [hi2.cell (by have := HW1.out.1; omega) hp, HW1.out.2.1.cell h1]; exact hv
          have e1 := hmove ⟨b1, 0, none⟩ _ HH.out.1.2.2.2.2.2.2.1 HH.out.1.2.2.1
          have e3 := hmove ⟨b3, 0, none⟩ _ HH.out.1.2.2.2.2.2.2.2.1 HH.out.1.2.2.2.1
          have x0 : W'.cell? ⟨Bx, 0, none⟩ = some (.int .i64 (eu : Int)) := by rw [cell_of_row W' _ _ _ _ _ hx2]; rfl
          have x1 : W'.cell? ⟨Bx, 1, none⟩ = some (.int .i64 (ev : Int)) := by rw [cell_of_row W' _ _ _ _ _ hx2]; rfl
          obtain ⟨Gp, hGp⟩ : ∃ Gp, Gp = (pre.map (fun x => x.1)).foldl (linkStep F) G' := ⟨_, rfl⟩
          have hbp : Bd (10000000000000 - 10) Gp := by
            rw [hGp]
            have h1 := Bd.links (F := F) (pre.map (fun x => x.1)) (fun e he => by obtain ⟨y, _, rfl⟩ := List.mem_map.1 he; exact y.2) HH.out.2.2.2
            refine h1.mono ?_
            have h2 : LE.length ≤ 990 := by have := links_many hl; rw [← HLE.out, List.length_map] at this; exact this
            rw [List.length_map]
            have := HK.out
            have := HH.out.2.2.1
            omega
          rw [← hGp] at hi1
          have HRC := Lib.hid (reach_any B _ _ _ Gp eu ev 0 0 W' hi1 hx62.1 hx62.2 (by omega) (by have := hbp eu hx62.1; omega))
          have HBP := Lib.hid (And.intro hbp hGp)
          have HI := Lib.hid (And.intro hi1 (And.intro hi2 (And.intro hx1 (And.intro hx2 (And.intro e1 (And.intro e3 (And.intro x0 x1)))))))
          have HXL := Lib.hid hx62
          have HBB1 := Lib.hid hb1'
          clear hmove hbp hGp hi1 hi2 hx2 hx1 hb1' hrec hlen
          gi_wp2_with (first | (refine ⟨trivial, ?_⟩; gi_at_call 78; refine (CallsIn.inRound lo (callsIn_wide.2 HRC.out)).mono ?_; rintro e w7 ⟨rfl, hw7, hg7⟩; have H7 := Lib.hid (And.intro hw7 hg7); clear hw7 hg7))
          have hBxB : Bx ≠ B := by have h1 := HI.out.2.2.1; have h2 := heap_lt HW1.out.2.2.2.1.box; omega
          have hfl7 : FlowAt w7 M kF F := by
            have h1 := HI.out.2.1.net HW1.out.2.2.2.1 ⟨HW1.out.2.2.2.1.flow.lt, heap_lt HW1.out.2.2.2.1.taken⟩ HI.out.1
            exact h1.flow.kept H7.out.2 (fun e => h1.ne.1 (by cases e; rfl))
          have m0 := H7.out.2.cell HI.out.2.2.2.2.1 (fun e => HH.out.1.2.2.2.2.2.2.1 (by cases e; rfl))
          have m3 := H7.out.2.cell HI.out.2.2.2.2.2.1 (fun e => HH.out.1.2.2.2.2.2.2.2.1 (by cases e; rfl))
          have m4 := H7.out.2.cell HI.out.2.2.2.2.2.2.1 (fun e => hBxB (by cases e; rfl))
          have m5 := H7.out.2.cell HI.out.2.2.2.2.2.2.2 (fun e => hBxB (by cases e; rfl))
          have m1 := H7.out.1.c1
          have q0 := kept_cell' m0
          have q1 := kept_cell' m1
          have q4 := kept_cell' m4
          have q5 := kept_cell' m5
          have hlk : ∀ x : Kw w7.heap.size w7, (Instr.lookup 75 (.map (some M)) (.agg #[.int .i64 (eu : Int), .int .i64 (ev : Int)]) false).run Try.prog x.1 = .ok (.int .i64 (F eu ev)) x.1 := fun x => (hfl7.below x.2).look (by have := HXL.out; omega) (by have := HXL.out; omega)
          have HM := Lib.hid (And.intro m0 (And.intro m3 (And.intro m4 (And.intro m5 hBxB))))
          clear m0 m1 m3 m4 m5 hfl7 hBxB e1 e3 x0 x1
          by_cases g : 0 < F eu ev
          · have gd : decide (0 < F eu ev) = true := decide_eq_true g
            have HG := Lib.hid g
            clear g
            refine wpIn_region_kept lo w7.heap.size w7 (by kernel_rfl) (by kernel_rfl) (by kernel_rfl) (Below.refl _ _) ?_
            repeat (go_big_quiet_step (fail))
            refine wpQuiet_nil ?_
            rintro _ ⟨X, rfl⟩
            obtain ⟨V, hV⟩ : ∃ V, V = X.1 := ⟨_, rfl⟩
            have hX := X.2
            rw [← hV] at hX ⊢
            clear hV X q0 q1 q4 q5 hlk
            have n3 := (hX.cell (cell_size HM.out.2.1)).trans HM.out.2.1
            have n4 := (hX.cell (cell_size HM.out.2.2.1)).trans HM.out.2.2.1
            have n5 := (hX.cell (cell_size HM.out.2.2.2.1)).trans HM.out.2.2.2.1
            have hb7 := H7.out.1.grown (grown_of_keep hX)
            have hbr := HBP.out.1.relax (u := eu) (v := ev) (g := 0) (o := 0) HXL.out.1 HXL.out.2 (by omega)
            have HRC2 := Lib.hid (reach_any B _ _ _ (relax Gp eu ev 0 0) ev eu 0 0 V hb7 HXL.out.2 HXL.out.1 (by omega) (by have := hbr ev HXL.out.2; omega))
            have HX := Lib.hid hX
            clear hX hb7 hbr HRC
            gi_wp2_with (first | (refine ⟨trivial, ?_⟩; gi_at_call 78; refine (CallsIn.inRound lo (callsIn_wide.2 HRC2.out)).mono ?_; rintro e w8 ⟨rfl, hw8, hg8⟩; have H8 := Lib.hid (And.intro hw8 hg8); clear hw8 hg8))
            have hgr : W'.grownBy w8 (some B) := (H7.out.2.trans ((grown_of_keep HX.out).but _)).trans H8.out.2
            refine ⟨KeepsFrom.of_grownBy hgr (fun j e => by cases e; exact heap_lt HW1.out.2.2.2.1.box), keepB_grown hgr HI.out.1 H8.out.1, ?_, HI.out.2.1.trans (Hole.of_grown hgr HI.out.2.1.size) (Nat.le_refl _)⟩
            rw [List.map_append, List.foldl_append, List.map_cons, List.map_nil, List.foldl_cons, List.foldl_nil, ← HBP.out.2, linkStep, if_pos HG.out]
            exact H8.out.1
          · have gd : decide (0 < F eu ev) = false := decide_eq_false g
            have HG := Lib.hid g
            clear g
            refine wpIn_region_kept lo w7.heap.size w7 (by kernel_rfl) (by kernel_rfl) (by kernel_rfl) (Below.refl _ _) ?_
            repeat (go_big_quiet_step (fail))
            refine wpQuiet_nil ?_
            rintro _ ⟨X, rfl⟩
            obtain ⟨V, hV⟩ : ∃ V, V = X.1 := ⟨_, rfl⟩
            have hX := X.2
            rw [← hV] at hX ⊢
            clear hV X q0 q1 q4 q5 hlk
            have HX := Lib.hid hX
            clear hX HRC
            gi_wp2
            have hgr : W'.grownBy V (some B) := H7.out.2.trans ((grown_of_keep HX.out).but _)
            have hb8 := H7.out.1.grown (grown_of_keep HX.out)
            refine ⟨KeepsFrom.of_grownBy hgr (fun j e => by cases e; exact heap_lt HW1.out.2.2.2.1.box), keepB_grown hgr HI.out.1 hb8, ?_, HI.out.2.1.trans (Hole.of_grown hgr HI.out.2.1.size) (Nat.le_refl _)⟩
            rw [List.map_append, List.foldl_append, List.map_cons, List.map_nil, List.foldl_cons, List.foldl_nil, ← HBP.out.2, linkStep_no F Gp eu ev HG.out]
            exact hb8
        case done =>
          intro D ys W' hD hys hI0 hDK
          obtain ⟨hi1, hi2⟩ := hI0
          have hnet := hi2.net HW1.out.2.2.2.1 ⟨HW1.out.2.2.2.1.flow.lt, heap_lt HW1.out.2.2.2.1.taken⟩ hi1
          have hGL : (ys.map (fun x => x.1)).foldl (linkStep F) G' = linksPass l F G' := by rw [hys, HLE.out, linksPass]
          rw [hGL] at hi1 hnet
          have hbl : Bd (10000000000000 - 100) (linksPass l F G') := by
            rw [linksPass]
            refine (Bd.links (F := F) (linksL l) (links_lt hl) HH.out.2.2.2).mono ?_
            have h2 := links_many hl
            have := HK.out
            have := HH.out.2.2.1
            omega
          have hmove : ∀ (p : Addr) (v : Value), p.block ≠ B → W0.cell? p = some v → W'.cell? p = some v := fun p v hp hv => by
            have h1 := cell_size hv
            rw [hi2.cell (by have := HW1.out.1; omega) hp, HW1.out.2.1.cell h1]; exact hv
          have e1 := hmove ⟨b1, 0, none⟩ _ HH.out.1.2.2.2.2.2.2.1 HH.out.1.2.2.1
          have e3 := hmove ⟨b3, 0, none⟩ _ HH.out.1.2.2.2.2.2.2.2.1 HH.out.1.2.2.2.1
          have hwas' : W'.heap[W0.heap.size]? = some (.cells (cellsN 62 G') 77 (0, 0)) :=
            (hi2.block _ (by have := HW1.out.1; omega) (Nat.ne_of_gt (heap_lt HH.out.1.1.box))).trans HW1.out.2.2.1
          have hrs : ∀ r ∈ rs, w.heap.size ≤ r ∧ r < W1.heap.size ∧ W'.heap[r]? = some (.deferred (some [])) := fun r hr => by
            obtain ⟨h1, h2⟩ := HH.out.1.2.2.2.2.2.1 r hr
            have h3 := heap_lt h2
            have h4 := HW1.out.1
            refine ⟨h1, by omega, ?_⟩
            rw [hi2.block r (by omega) (by have := HLT.out; omega), HW1.out.2.1.block r h3]; exact h2
          have HE := Lib.hid (And.intro e1 (And.intro e3 hwas'))
          have HRS := Lib.hid hrs
          have HNET := Lib.hid hnet
          have HI2 := Lib.hid hi2
          have HBL := Lib.hid hbl
          have HDD := Lib.hid (And.intro hD hDK)
          have c2 := hnet.box.c2
          clear hnet hGL hi1 hi2 hbl hmove hwas' hrs hys hD hDK
          gi_wp2
          go_wp2_with fail
          clear c2 e3 e1
          obtain ⟨Gl, hGl⟩ : ∃ Gl, Gl = linksPass l F G' := ⟨_, rfl⟩
          have HGL := Lib.hid hGl
          have HTL : Hid (t.length ≤ 30) := Lib.hid (by have := HT.out; omega)
          have HNL : Hid (NetAt W' B M Tb (.slice A l.length c) kF F t Gl ∧ Bd (10000000000000 - 100) Gl) := Lib.hid (by rw [hGl]; exact ⟨HNET.out, HBL.out⟩)
          clear hGl HNET HBL
          go_loopw [67] (fun i wq => ∃ j : Nat, j ≤ t.length ∧ i = .int .i64 j ∧ Hid (BoxAt wq B (.slice A l.length c) (.map (some M)) (.slice (some ⟨Tb, 0, none⟩) t.length t.length) (logsTo t Gl j) ∧ W'.grownBy wq (some B))) (fun i _ => 60 - (intOf i).toNat)
          case atStart => exact ⟨0, Nat.zero_le _, rfl, Lib.hid ⟨HNL.out.1.box, World.grownBy.refl _ _⟩⟩
          case round =>
            obtain ⟨j, hj, rfl, HJ⟩ := hrel
            have m0 := HJ.out.2.cell HE.out.1 (fun e => HH.out.1.2.2.2.2.2.2.1 (by cases e; rfl))
            have m3 := HJ.out.2.cell HE.out.2.1 (fun e => HH.out.1.2.2.2.2.2.2.2.1 (by cases e; rfl))
            have HNJ := Lib.hid (HNL.out.1.turnG HJ.out.2 HJ.out.1)
            have hbj := HNL.out.2.logs HTL.out j hj
            by_cases hltj : j < t.length
            · have hltji : (j : Int) < (t.length : Int) := by omega
              have j0 : (0 : Int) ≤ (j : Int) := by omega
              have j30 : (j : Int) < 30 := by have := HTL.out; omega
              have cj := HNJ.out.cellT hltj
              obtain ⟨tv, htv⟩ : ∃ tv, tv = rd t (j : Int) := ⟨_, rfl⟩
              rw [← htv] at cj
              by_cases g : tv = 0
              · have HR1 := Lib.hid (reach_any B _ _ _ (logsTo t Gl j) (2 * j + 2) (2 * j + 3) 1 1 wr HJ.out.1 (by omega) (by omega) (by omega) (by have := hbj (2 * j + 2) (by omega); omega))
                have HST : Hid (logsTo t Gl (j + 1) = relax (logsTo t Gl j) (2 * j + 2) (2 * j + 3) 1 1) := Lib.hid (by rw [logsTo, logStep, if_pos (by rw [← htv]; exact g)])
                subst g
                clear hbj htv
                go_wp2_with (first | (go_at_call 78; refine HR1.out.mono ?_; rintro e w9 ⟨rfl, hw9, hg9⟩; have H9 := Lib.hid (And.intro hw9 hg9); clear hw9 hg9))
                go_roundw
                case rel => exact ⟨j + 1, by omega, by go_num, Lib.hid ⟨by rw [HST.out]; exact H9.out.1, HJ.out.2.trans H9.out.2⟩⟩
                case measure => simp [intOf]; omega
              · have HR1 := Lib.hid (reach_any B _ _ _ (logsTo t Gl j) (2 * j + 3) (2 * j + 2) (-1) (-1) wr HJ.out.1 (by omega) (by omega) (by omega) (by have := hbj (2 * j + 3) (by omega); omega))
                have HST : Hid (logsTo t Gl (j + 1) = relax (logsTo t Gl j) (2 * j + 3) (2 * j + 2) (-1) (-1)) := Lib.hid (by rw [logsTo, logStep, if_neg (by rw [← htv]; exact g)])
                have gb : (tv == 0) = false := beq_eq_false_iff_ne.2 g
                clear hbj htv g
                go_wp2_with (first | (go_at_call 78; refine HR1.out.mono ?_; rintro e w9 ⟨rfl, hw9, hg9⟩; have H9 := Lib.hid (And.intro hw9 hg9); clear hw9 hg9))
                go_roundw
                case rel => exact ⟨j + 1, by omega, by go_num, Lib.hid ⟨by rw [HST.out]; exact H9.out.1, HJ.out.2.trans H9.out.2⟩⟩
                case measure => simp [intOf]; omega
            · have hnl : ¬ (j : Int) < (t.length : Int) := by omega
              have HJT : Hid (logsTo t Gl j = passF l F t G') := Lib.hid (by rw [passF, ← HGL.out, show j = t.length by omega])
              obtain ⟨Gn, hGn⟩ : ∃ Gn, Gn = logsTo t Gl j := ⟨_, rfl⟩
              have HGN := Lib.hid hGn
              have hbx := HJ.out.1
              rw [← hGn] at hbx hbj
              have HBX := Lib.hid hbx
              have HBJ := Lib.hid hbj
              have hwas := (HJ.out.2.block _ (heap_lt HE.out.2.2) (fun e => by cases e; exact absurd (heap_lt HH.out.1.1.box) (Nat.lt_irrefl _))).trans HE.out.2.2
              have HWAS := Lib.hid hwas
              clear hwas hbx hbj hGn m3
              go_wp2_with fail
              obtain ⟨wz, hwz⟩ : ∃ wz, wz = wr := ⟨_, rfl⟩
              rw [← hwz] at m0 HNJ HBX HWAS HJ ⊢
              clear hwz
              refine wp_region_kept wz.heap.size wz (by kernel_rfl) (by kernel_rfl) (Below.refl _ _) ?_
              refine quiet_take (v := .pointer (some ⟨B, 0, none⟩)) (by rfl) (by rintro _ ⟨x, rfl⟩; have q0 := kept_cell' m0 x; go_simp) ?_
              (try simp only [Act.put, List.setIfInBounds_toArray, List.set_cons_zero, List.set_cons_succ])
              refine quiet_take (v := .pointer (some ⟨B, 0, none⟩)) (by rfl) (by rintro _ ⟨x, rfl⟩; go_simp) ?_
              (try simp only [Act.put, List.setIfInBounds_toArray, List.set_cons_zero, List.set_cons_succ])
              refine quiet_take (v := .pointer (some ⟨B, 3, none⟩)) (by rfl) (by rintro _ ⟨x, rfl⟩; go_simp) ?_
              (try simp only [Act.put, List.setIfInBounds_toArray, List.set_cons_zero, List.set_cons_succ])
              refine quiet_take (v := .pointer (some ⟨B, 3, none⟩)) (by rfl) (by rintro _ ⟨x, rfl⟩; go_simp) ?_
              (try simp only [Act.put, List.setIfInBounds_toArray, List.set_cons_zero, List.set_cons_succ])
              refine quiet_take (v := .agg (cellsN 62 Gn)) (by rfl) (by rintro _ ⟨x, rfl⟩; exact exec_load_at x.1 77 (.tmp 94) rfl B 3 62 rfl Gn _ (fun j hj => kept_cell' (HBX.out.cell j (by omega)) x) nodes_under rfl HSZ.out) ?_
              (try simp only [Act.put, List.setIfInBounds_toArray, List.set_cons_zero, List.set_cons_succ])
              refine quiet_take (v := .agg (cellsN 62 G')) (by rfl) (by rintro _ ⟨x, rfl⟩; exact exec_load_at x.1 77 (.tmp 4) rfl W0.heap.size 0 62 rfl G' _ (fun j hj => kept_cell' (by rw [Nat.zero_add, cell_of_row _ _ _ _ _ _ HWAS.out]; exact cellsN_get _ _ hj) x) nodes_under rfl HSZ.out) ?_
              (try simp only [Act.put, List.setIfInBounds_toArray, List.set_cons_zero, List.set_cons_succ])
              refine quiet_take (v := .bool (sameB G' Gn)) (by rfl) (by rintro _ ⟨x, rfl⟩; have hq := same_nodes x.1 Gn G'; rw [show ((List.range 62).all fun i => Gn i == G' i) = sameB G' Gn from rfl] at hq; go_simp) ?_
              (try simp only [Act.put, List.setIfInBounds_toArray, List.set_cons_zero, List.set_cons_succ])
              refine wpQuiet_nil ?_
              rintro _ ⟨X, rfl⟩
              obtain ⟨V, hV⟩ : ∃ V, V = X.1 := ⟨_, rfl⟩
              have hX := X.2
              rw [← hV] at hX ⊢
              clear hV X
              have HX := Lib.hid hX
              clear hX m0
              have hnV : NetAt V B M Tb (.slice A l.length c) kF F t Gn := NetAt.below ⟨HBX.out, HNJ.out.flow, HNJ.out.taken, HNJ.out.ne⟩ HX.out
              have hoV : Hole B w.heap.size w V := by
                have a1 := HH.out.1.2.1
                have a2 := a1.trans (Hole.of_below HW1.out.2.1 a1.size) (Nat.le_refl _)
                have a3 := a2.trans HI2.out (by have := a2.size; exact this)
                have a4 := a3.trans (Hole.of_grown HJ.out.2 a3.size) (Nat.le_refl _)
                exact a4.trans (Hole.of_below HX.out a4.size) (Nat.le_refl _)
              have h1V : V.cell? ⟨b1, 0, none⟩ = some (.pointer (some ⟨B, 0, none⟩)) := by
                have h1 := HJ.out.2.cell HE.out.1 (fun e => HH.out.1.2.2.2.2.2.2.1 (by cases e; rfl))
                exact (HX.out.cell (cell_size h1)).trans h1
              have h3V : V.cell? ⟨b3, 0, none⟩ = some (.func (.func 78) #[.pointer (some ⟨B, 0, none⟩)] #[]) := by
                have h1 := HJ.out.2.cell HE.out.2.1 (fun e => HH.out.1.2.2.2.2.2.2.2.1 (by cases e; rfl))
                exact (HX.out.cell (cell_size h1)).trans h1
              have hw1 : w.heap.size ≤ W1.heap.size := by have := HH.out.1.2.1.size; have := HW1.out.1; omega
              have hndV : (D :: rs).Nodup := List.nodup_cons.2 ⟨fun hm => by have h1 := (HRS.out D hm).2.1; have h2 := HDD.out.1; omega, HH.out.1.2.2.2.2.1⟩
              have hmkV : ∀ r ∈ D :: rs, w.heap.size ≤ r ∧ V.heap[r]? = some (.deferred (some [])) := fun r hr => by
                have key : w.heap.size ≤ r ∧ W'.heap[r]? = some (.deferred (some [])) := by
                  rcases List.mem_cons.1 hr with rfl | hr
                  · exact ⟨Nat.le_trans hw1 HDD.out.1, HDD.out.2⟩
                  · exact ⟨(HRS.out r hr).1, (HRS.out r hr).2.2⟩
                have h2 := (HJ.out.2.block r (heap_lt key.2) (fun e => by cases e; have h3 := key.1; have h4 := HLT.out; omega)).trans key.2
                exact ⟨key.1, (HX.out.block r (heap_lt h2)).trans h2⟩
              have hsN := HH.out.2.1
              rw [searchN, ← HJT.out, ← HGN.out] at hsN
              have hbV : Bd (3000 * ((k : Int) - k'')) Gn := by
                rw [HGN.out, HJT.out, passF]
                have b1 := Bd.links (F := F) (linksL l) (links_lt hl) HH.out.2.2.2
                have b2 := Bd.logs HTL.out b1 t.length (Nat.le_refl _)
                refine b2.mono ?_
                have := links_many hl
                have := HTL.out
                omega
              have HV := Lib.hid (And.intro hnV (And.intro hoV (And.intro h1V (And.intro h3V (And.intro hndV (And.intro hmkV (And.intro hsN hbV)))))))
              clear hnV hoV h1V h3V hndV hmkV hsN hbV hw1
              cases hsm : sameB G' Gn
              · have HSM := Lib.hid hsm
                clear hsm
                go_wp2_with fail
                refine Handed.intro k'' (by omega) (hJ _ _ _ ?_)
                (repeat apply Exists.intro)
                refine ⟨rfl, (show MarksOk _ (D :: rs) by rw [MarksOk, hds, List.map_cons]), Lib.hid ⟨Gn, ?_, ?_, ?_, ?_⟩⟩
                · exact ⟨HV.out.1, HV.out.2.1, HV.out.2.2.1, HV.out.2.2.2.1, HV.out.2.2.2.2.1, HV.out.2.2.2.2.2.1, HH.out.1.2.2.2.2.2.2⟩
                · have h := HV.out.2.2.2.2.2.2.1
                  rw [HSM.out] at h
                  exact h
                · have := HH.out.2.2.1; omega
                · exact HV.out.2.2.2.2.2.2.2
              · have HSM := Lib.hid hsm
                clear hsm
                go_wp2_with fail
                have hG : Gn = G := by
                  have h := HV.out.2.2.2.2.2.2.1
                  rw [HSM.out] at h
                  exact Option.some.inj h
                show LeavesInM Fence.wide 9 Try.prog Try.f70 _ _ ({ target := .collected D, args := #[] } :: ds) .returning V
                rw [hds]
                refine leaves_marks (.tuple #[]) (D :: rs) V HV.out.2.2.2.2.1 (fun r hr => (HV.out.2.2.2.2.2.1 r hr).2) fun W' hk ho ht hu hs => ⟨results_none rfl _ _ _, rfl, ?_, ?_⟩
                · have hnot : ∀ x, x < w.heap.size → x ∉ D :: rs := fun x hx hm => by have := (HV.out.2.2.2.2.2.1 x hm).1; omega
                  rw [← hG]
                  exact HV.out.1.of_heap (hk _ (hnot _ HLT.out)) (hk _ (hnot _ HB.out.flow.lt)) (hk _ (hnot _ (heap_lt HB.out.taken)))
                · have h1 := HV.out.2.1
                  exact ⟨ho.trans h1.os, ht.trans h1.tape, hu.trans h1.output, by rw [hs]; exact h1.size, fun x hx hxB => (hk x (fun hm => by have := (HV.out.2.2.2.2.2.1 x hm).1; omega)).trans (h1.block x hx hxB)⟩
        case stop =>
          rintro D cd pre W' _ _ h _
          exact h.elim
end Go.Proofs.Ytmfonbonfhngnaa.Hand

/- Pockets are used, one after another, as long as they take logs more. -/
namespace Go.Proofs.Ytmfonbonfhngnaa.Hand
set_option linter.unusedVariables false
set_option linter.unusedSimpArgs false
open Go.RowKit Go.Maps Go.Proofs.YtmfonbonfhngnaaW.PrintWords Go.Proofs.YtmfonbonfhngnaaW.PrintLast Go.Proofs.YtmfonbonfhngnaaW.PrintMore

/-- where a search begins -/
def startG : Nat → Int := fun j => if j = 0 then 0 else if j < 62 then farI else 0
/-- the steps of a way are used, from a node back to the beginning -/
def wayN (G : Nat → Int) : Nat → Nat → (Nat → Nat → Int) → List Int → Option ((Nat → Nat → Int) × List Int)
  | _, 0, F, t => some (F, t)
  | 0, _ + 1, _, _ => none
  | k + 1, v + 1, F, t =>
    if v + 1 < 62 ∧ 0 ≤ G (62 + (v + 1)) ∧ G (62 + (v + 1)) < 62 then
      if G (124 + (v + 1)) = 0 then wayN G k (G (62 + (v + 1))).toNat (useF F (G (62 + (v + 1))).toNat (v + 1)) t
      else if 0 < G (124 + (v + 1)) then
        if 2 ≤ (G (62 + (v + 1))).toNat ∧ (G (62 + (v + 1))).toNat % 2 = 0 ∧ (G (62 + (v + 1))).toNat / 2 - 1 < t.length then wayN G k (G (62 + (v + 1))).toNat F (t.set ((G (62 + (v + 1))).toNat / 2 - 1) 1) else none
      else if 2 ≤ v + 1 ∧ (v + 1) % 2 = 0 ∧ (v + 1) / 2 - 1 < t.length then wayN G k (G (62 + (v + 1))).toNat F (t.set ((v + 1) / 2 - 1) 0) else none
    else none
/-- pockets are used -/
def pushL (l : List Int) (ks kw : Nat) : Nat → (Nat → Nat → Int) → List Int → List Int → Option (List Int × (Nat → Nat → Int) × List Int × (Nat → Int))
  | 0, F, t, out => (searchN l F t ks startG).map fun G => (out, F, t, G)
  | m + 1, F, t, out => (searchN l F t ks startG).bind fun G => if G 1 ≤ 0 then some (out, F, t, G) else (wayN G kw 1 F t).bind fun r => pushL l ks kw m r.1 r.2 (out ++ [G 1])
theorem wayN_len {G : Nat → Int} : ∀ (k v : Nat) {F : Nat → Nat → Int} {t : List Int} {r : (Nat → Nat → Int) × List Int}, wayN G k v F t = some r → r.2.length = t.length
  | _, 0, F, t, r, h => by
    unfold wayN at h
    cases h; rfl
  | 0, _ + 1, F, t, r, h => by simp [wayN] at h
  | k + 1, v + 1, F, t, r, h => by
    rw [wayN] at h
    repeat' split at h
    all_goals first
      | (cases h; done)
      | (have := wayN_len k _ h; simpa using this)

/-- a net, its bounds, and what lies below -/
def PushAt (w w00 : World) (B M Tb : Nat) (rv : Value) (kF : Nat) (F : Nat → Nat → Int) (t : List Int) (n : Nat) (W : World) : Prop :=
  (∃ G, NetAt W B M Tb rv kF F t G) ∧ (∀ x y, -(kF : Int) ≤ F x y ∧ F x y ≤ kF) ∧ t.length = n ∧ Below w00.heap.size w W ∧ w00.heap.size ≤ W.heap.size

theorem useF_bound {F : Nat → Nat → Int} {k : Nat} (h : ∀ x y, -(k : Int) ≤ F x y ∧ F x y ≤ k) (u v : Nat) : ∀ x y, -((k + 1 : Nat) : Int) ≤ useF F u v x y ∧ useF F u v x y ≤ ((k + 1 : Nat) : Int) := by
  intro x y
  have h1 := h x y
  have h2 := h v u
  have h3 := h u v
  unfold useF
  split
  · unfold updF; split <;> omega
  · unfold updF; split <;> omega

/-- a step of a way, at any link or log -/
theorem use_any (B M Tb kF : Nat) (rv : Value) (F : Nat → Nat → Int) (t : List Int) (G G1 : Nat → Int) (k v n0 : Nat) (r : (Nat → Nat → Int) × List Int) (w : World) (h : NetAt w B M Tb rv kF F t G1) (ht : t.length ≤ 30) (hkF : kF < 100000) (hF : ∀ x y, -(kF : Int) ≤ F x y ∧ F x y ≤ kF) (hn : n0 ≤ B ∧ n0 ≤ M ∧ n0 ≤ Tb)
    (hw : wayN G (k + 1) (v + 1) F t = some r) :
    v + 1 < 62 ∧ ∃ u : Nat, G (62 + (v + 1)) = (u : Int) ∧ u < 62 ∧ Calls Try.prog 71 #[.pointer (some ⟨B, 0, none⟩), .agg #[.int .i64 u, .int .i64 ((v + 1 : Nat) : Int)], .int .i64 (G (124 + (v + 1)))] w
      fun e w' => e = .returned (.tuple #[]) ∧ ∃ F' t' kF', NetAt w' B M Tb rv kF' F' t' G1 ∧ t'.length = t.length ∧ kF' ≤ kF + 1 ∧ (∀ x y, -(kF' : Int) ≤ F' x y ∧ F' x y ≤ kF') ∧ wayN G k u F' t' = some r ∧ Below n0 w w' ∧ Others M Tb w w' := by
  rw [wayN] at hw
  split at hw
  · rename_i hv
    obtain ⟨u, hu⟩ := Int.eq_ofNat_of_zero_le hv.2.1
    refine ⟨hv.1, u, hu, by omega, ?_⟩
    rw [hu, Int.toNat_natCast] at hw
    split at hw
    · rename_i h0
      rw [h0]
      refine (use_link B M Tb kF n0 rv F t G1 u (v + 1) w h (by omega) (by omega) (by omega) (fun x y => by have := hF x y; omega) hn).mono ?_
      rintro e w' ⟨rfl, h1, h2⟩
      exact ⟨rfl, _, t, kF + 1, h1, rfl, Nat.le_refl _, useF_bound hF _ _, hw, h2⟩
    · split at hw
      · rename_i h0
        split at hw
        · rename_i hc
          have e : u = 2 * (u / 2 - 1) + 2 := by omega
          have hc' := use_take B M Tb kF n0 rv F t G1 (u / 2 - 1) ((v + 1 : Nat) : Int) (G (124 + (v + 1))) w h hc.2.2 ht h0 hn
          rw [← e] at hc'
          refine hc'.mono ?_
          rintro e w' ⟨rfl, h1, h2⟩
          exact ⟨rfl, F, _, kF, h1, by simp, Nat.le_succ _, hF, hw, h2⟩
        · cases hw
      · rename_i h0 h00
        split at hw
        · rename_i hc
          have e : v + 1 = 2 * ((v + 1) / 2 - 1) + 2 := by omega
          have hc' := use_give B M Tb kF n0 rv F t G1 ((v + 1) / 2 - 1) (u : Int) (G (124 + (v + 1))) w h hc.2.2 ht (by omega) hn
          rw [← e] at hc'
          refine hc'.mono ?_
          rintro e w' ⟨rfl, h1, h2⟩
          exact ⟨rfl, F, _, kF, h1, by simp, Nat.le_succ _, hF, hw, h2⟩
        · cases hw
  · cases hw

theorem own_hole {w w' : World} {B base n : Nat} {e : TypeId} {size : Nat} {v : Value} {xs : List Value} (h : w.ownsRow base e size v n xs) (ho : Hole B w.heap.size w w') (hB : B < base) : w'.ownsRow base e size v n xs := by
  refine ⟨h.1, ?_⟩
  rcases h.2 with h2 | ⟨g, cap, cur, rfl, hg, hh, r⟩
  · exact .inl h2
  · exact .inr ⟨g, cap, cur, rfl, hg, (ho.block g (heap_lt hh) (by omega)).trans hh, r⟩
theorem own_others {w w' : World} {M Tb base n : Nat} {e : TypeId} {size : Nat} {v : Value} {xs : List Value} (h : w.ownsRow base e size v n xs) (ho : Others M Tb w w') (hM : M < base) (hT : Tb < base) : w'.ownsRow base e size v n xs := by
  refine ⟨h.1, ?_⟩
  rcases h.2 with h2 | ⟨g, cap, cur, rfl, hg, hh, r⟩
  · exact .inl h2
  · exact .inr ⟨g, cap, cur, rfl, hg, (ho g (heap_lt hh) (by omega) (by omega)).trans hh, r⟩
theorem own_lower {w : World} {base base' n : Nat} {e : TypeId} {size : Nat} {v : Value} {xs : List Value} (h : w.ownsRow base e size v n xs) (hb : base' ≤ base) : w.ownsRow base' e size v n xs := by
  obtain ⟨h1, h2⟩ := h
  refine ⟨h1, ?_⟩
  rcases h2 with h2 | ⟨g, cap, cur, rfl, hg, r⟩
  · exact .inl h2
  · exact .inr ⟨g, cap, cur, rfl, Nat.le_trans hb hg, r⟩
theorem own_below {w w' : World} {base n : Nat} {e : TypeId} {size : Nat} {v : Value} {xs : List Value} (h : w.ownsRow base e size v n xs) (hb : Below w.heap.size w w') : w'.ownsRow base e size v n xs :=
  h.kept (grown_of_keep hb) (Classical.em _)
theorem ends_zero : Try.prog.built 84 [] = some #[.int .i64 0, .int .i64 0] := by kernel_rfl
theorem run_zero (W : World) : (Instr.build 84 #[]).run Try.prog W = .ok (.agg #[.int .i64 0, .int .i64 0]) W := run_build W _ _ _ ends_zero
theorem ends_ne (W : World) (x y : Int) : (binOp .neq 84 (.agg #[.int .i64 x, .int .i64 y]) (.agg #[.int .i64 0, .int .i64 0])).run Try.prog W = .ok (.bool (!(x == 0 && y == 0))) W := by
  obtain ⟨f, g, hf, ⟨ht, ho, hn⟩, ⟨gt, go, gn⟩⟩ := pair_fields
  by_cases h1 : x = 0
  · by_cases h2 : y = 0 <;> simp [go_sem, h1, h2]
  · simp [go_sem, h1]
/-- nothing that flows is taken out -/
theorem FlowIs.drop {D : DataW Unit} {F : Nat → Nat → Int} (hD : IsMap D) (h : FlowIs D F) {x y : Int} (hx : (Lit.int .i64 x).wf = true) (hy : (Lit.int .i64 y).wf = true) (h0 : ∀ zd, D.atKey (pairKey x y) zd = .lit (.int .i64 0)) : FlowIs (D.del (pairKey x y)) F := by
  intro a b ha hb
  by_cases e : pairKey a b = pairKey x y
  · have h1 := h a b ha hb
    rw [e, h0] at h1
    have h2 : F a b = 0 := by
      have : (0 : Int) = F a b := by simpa using h1
      exact this.symm
    rw [e, atKey_del_same, h2]
  · rw [atKey_del_other e]
    exact h a b ha hb
/-- what lies in memory where the next pocket is tried -/
def TryAt (w w00 : World) (B M Tb : Nat) (A : Option Addr) (c : Nat) (l : List Int) (ks kw m : Nat) (res : List Int × (Nat → Nat → Int) × List Int × (Nat → Int)) (v : Value) (j : Nat) (W : World) : Prop :=
  ∃ (F : Nat → Nat → Int) (t out : List Int) (G : Nat → Int) (kF : Nat), NetAt W B M Tb (.slice A l.length c) kF F t G ∧ t.length = l.length ∧ kF ≤ (j + 1) * 1000 ∧ (∀ x y, -(kF : Int) ≤ F x y ∧ F x y ≤ kF) ∧ Below w00.heap.size w00 W ∧ w.heap.size ≤ W.heap.size ∧
    W.ownsRow w.heap.size 3 1 v out.length (nums .i64 out) ∧ out.length ≤ j ∧ pushL l ks kw m F t out = some res

/-- what lies in memory behind the last pocket -/
def DoneAt (w w00 : World) (B M Tb : Nat) (A : Option Addr) (c : Nat) (l : List Int) (ks : Nat) (res : List Int × (Nat → Nat → Int) × List Int × (Nat → Int)) (v : Value) (W : World) : Prop :=
  ∃ (F : Nat → Nat → Int) (t out : List Int) (G0 G : Nat → Int) (kF : Nat), NetAt W B M Tb (.slice A l.length c) kF F t G0 ∧ t.length = l.length ∧ kF ≤ 32000 ∧ (∀ x y, -(kF : Int) ≤ F x y ∧ F x y ≤ kF) ∧ Below w00.heap.size w00 W ∧ w.heap.size ≤ W.heap.size ∧
    W.ownsRow w.heap.size 3 1 v out.length (nums .i64 out) ∧ out.length ≤ 30 ∧ searchN l F t ks startG = some G ∧ res = (out, F, t, G)

set_option maxHeartbeats 8000000 in
set_option maxRecDepth 100000 in
theorem push_any (B M Tb : Nat) (A : Option Addr) (c : Nat) (l : List Int) (F : Nat → Nat → Int) (t : List Int) (G0 : Nat → Int) (many ks kw : Nat) (res : List Int × (Nat → Nat → Int) × List Int × (Nat → Int)) (w w00 : World)
    (h : NetAt w B M Tb (.slice A l.length c) 0 F t G0) (hr : Kd.C (Kd.int .i64) w00 A l.length l) (hc : l.length ≤ c) (hl : l.length ≤ 30) (ht : t.length = l.length) (hF : ∀ x y, F x y = 0)
    (hw0 : Below w00.heap.size w00 w) (hwB : w00.heap.size ≤ B ∧ w00.heap.size ≤ M ∧ w00.heap.size ≤ Tb) (hk : ks < 1000000000) (hkw : kw ≤ 1000) (hm : many ≤ 30) (hp : pushL l ks kw many F t [] = some res) :
    Calls Try.prog 52 #[.pointer (some ⟨B, 0, none⟩), .int .i64 many] w
      fun e w' => ∃ (v : Value) (kF : Nat), e = .returned v ∧ w'.ownsRow w.heap.size 3 1 v res.1.length (nums .i64 res.1) ∧ NetAt w' B M Tb (.slice A l.length c) kF res.2.1 res.2.2.1 res.2.2.2 ∧ res.2.2.1.length = l.length ∧ kF ≤ 32000 ∧ (∀ x y, -(kF : Int) ≤ res.2.1 x y ∧ res.2.1 x y ≤ kF) ∧ Below w00.heap.size w00 w' ∧ res.1.length ≤ 30 := by
  have HT : Hid (TryAt w w00 B M Tb A c l ks kw many res (.slice none 0 0) 0 w) := Lib.hid ⟨F, t, [], G0, 0, h, ht, by omega, fun x y => by rw [hF]; omega, hw0, Nat.le_refl _, ⟨rfl, .inl ⟨rfl, rfl⟩⟩, Nat.le_refl _, hp⟩
  have HR := Lib.hid hr
  have HWB := Lib.hid hwB
  have HK := Lib.hid (And.intro hk (And.intro hkw hm))
  have HSE := Lib.hid (fun (kF : Nat) (F : Nat → Nat → Int) (t : List Int) (G1 G : Nat → Int) (W : World) (hn : NetAt W B M Tb (.slice A l.length c) kF F t G1) (ht : t.length = l.length) (hb : Below w00.heap.size w00 W) (hs : searchN l F t ks startG = some G) =>
    search_any B M Tb kF A c l F t G1 G ks W hn w00 hr hc hl ht hb hwB hk hs)
  have HL := Lib.hid (And.intro hl (And.intro hw0.size h.flow.lt))
  have m30 : (many : Int) ≤ 30 := by omega
  have HLT : Hid (B < w.heap.size ∧ M < w.heap.size ∧ Tb < w.heap.size) := Lib.hid ⟨heap_lt h.box, h.flow.lt, heap_lt h.taken⟩
  clear h hr hc hl ht hF hw0 hwB hk hkw hp
  go_enter Try.func52, Try.ntmps52
  go_upto_block 0 with fail
  go_cut [5] (fun v5 wc => Hid (DoneAt w w00 B M Tb A c l ks res v5 wc))
  case first =>
    go_wp2_with fail
    go_loopw [5, 11] (fun v i wr => ∃ j : Nat, j ≤ many ∧ i = .int .i64 j ∧ Hid (TryAt w w00 B M Tb A c l ks kw (many - j) res v j wr)) (fun _ i _ => 60 - (intOf i).toNat)
    case atStart => exact ⟨0, Nat.zero_le _, rfl, HT⟩
    case round =>
      obtain ⟨j, hj, rfl, HI⟩ := hrel
      obtain ⟨wo, rfl⟩ : ∃ wo : World, wo = wr := ⟨_, rfl⟩
      by_cases hlt : j < many
      · have hlti : (j : Int) < (many : Int) := by omega
        have hj30 : (j : Int) < 30 := by omega
        obtain ⟨F, t, out, G1, kF, hn, ht, hkF, hF, hb, hsz, hown, hol, hps⟩ := HI.out
        rw [show many - j = (many - (j + 1)) + 1 by omega, pushL] at hps
        obtain ⟨G, hs, hps⟩ := Option.bind_eq_some_iff.1 hps
        have HSR := Lib.hid (HSE.out kF F t G1 G wo hn ht hb hs)
        have HN := Lib.hid (And.intro ht (And.intro hkF (And.intro hF (And.intro hb (And.intro hsz (And.intro hown hol))))))
        have HS := Lib.hid hs
        have HPS := Lib.hid hps
        clear hn ht hkF hF hb hsz hown hol hs hps
        go_upto_region 5 with (go_at_call 70; refine HSR.out.mono ?_; rintro e w1 ⟨rfl, hn1, ho1⟩; have HN1 := Lib.hid (And.intro hn1 ho1); clear hn1 ho1)
        have c1 := HN1.out.1.box.cell 1 (by omega)
        rw [show (3 + 1 : Nat) = 4 from rfl] at c1
        have HB1 : Hid (Below w00.heap.size w00 w1 ∧ w.heap.size ≤ w1.heap.size ∧ w1.ownsRow w.heap.size 3 1 u5 out.length (nums .i64 out)) := Lib.hid (by
          have h1 := HN.out
          refine ⟨h1.2.2.2.1.trans (HN1.out.2.below (Nat.le_trans HL.out.2.1 h1.2.2.2.2.1) HWB.out.1), Nat.le_trans h1.2.2.2.2.1 HN1.out.2.size, own_hole h1.2.2.2.2.2.1 HN1.out.2 ?_⟩
          exact HLT.out.1)
        by_cases g : G 1 ≤ 0
        · have HPG : Hid (some (out, F, t, G) = some res) := Lib.hid (by have h := HPS.out; rw [if_pos g] at h; exact h)
          clear HPS
          go_wp2_with fail
          go_meet
          case rel => exact Lib.hid ⟨F, t, out, G, G, kF, HN1.out.1, HN.out.1, by have := HN.out.2.1; omega, HN.out.2.2.1, HB1.out.1, HB1.out.2.1, HB1.out.2.2, by have := HN.out.2.2.2.2.2.2; omega, HS.out, (Option.some.inj HPG.out).symm⟩
        · have hpg := HPS.out
          rw [if_neg g] at hpg
          obtain ⟨r, hway, hnext⟩ := Option.bind_eq_some_iff.1 hpg
          have HW := Lib.hid (And.intro hway hnext)
          clear HPS hpg hway hnext
          obtain ⟨ao, cap, rfl, hpc, hnn, hrd⟩ := own_out HB1.out.2.2
          have HNN := Lib.hid hnn
          have HRD := Lib.hid (hrd.allocS (.cells #[.int .i64 (G 1)] 3))
          obtain ⟨i0, hi, hz0, hz1, hz2⟩ := info_parts infoInt
          have hcut := fun W => run_cut3 (P := Try.prog) W 23 3 Try.underlying23 hi ao out.length cap hpc
          have hol := HN.out.2.2.2.2.2.2
          obtain ⟨gn, hgn⟩ : ∃ gn, gn = G 1 := ⟨_, rfl⟩
          rw [← hgn] at c1 g HRD
          have HGN := Lib.hid hgn
          clear hnn hrd hgn
          go_wp2_with (first | (at_builtin; refine wpList_append_grows _ rfl _ _ 23 rfl 3 i0 (.int .i64 0) 1 8 Try.underlying23 hi hz0 hz1 hz2 rfl (by decide) ao out.length out.length (nums .i64 out) rfl (fun e => ⟨(HNN.out e).1, (HNN.out e).1⟩) (by simp [nums]) (fun b e => reads_cells HRD.out b e) ⟨w1.heap.size, 0, none⟩ 1 1 [.int .i64 gn] rfl rfl (cell_one_new _ _ _) (by simp [Value.oneCell']) (by omega) (by unfold maxLen; omega) (by omega) ?_; intro v5 w5 hown5 hgrow5; have H5 := Lib.hid (And.intro hown5 hgrow5); clear hown5 hgrow5))
          have HB5 : Hid (Below w00.heap.size w00 w5 ∧ w.heap.size ≤ w5.heap.size ∧ w5.ownsRow w.heap.size 3 1 v5 (out ++ [gn]).length (nums .i64 (out ++ [gn]))) := Lib.hid (by
            have h1 := HB1.out
            have hg := H5.out.2
            have ho := H5.out.1
            refine ⟨(h1.1.alloc (Nat.le_trans HL.out.2.1 h1.2.1) _).grown hg (by have := h1.2.1; have := HL.out.2.1; rw [World.size_alloc]; omega) (fun j e => by cases e), by have h2 := hg.size; have := h1.2.1; rw [World.size_alloc] at h2; omega, ?_⟩
            rw [show nums .i64 out ++ [Value.int .i64 gn] = nums .i64 (out ++ [gn]) by simp [nums]] at ho
            rw [List.length_append]
            exact own_lower ho (by have := h1.2.1; rw [World.size_alloc]; omega))
          have HN5 : Hid (NetAt w5 B M Tb (.slice A l.length c) kF F t G) := Lib.hid ((HN1.out.1.below ((Below.refl _ _).alloc (Nat.le_refl _) _)).below (below_of_grown H5.out.2))
          clear hcut c1
          go_loopg [7] kw (fun k v7 wq => ∃ (vx : Nat) (F' : Nat → Nat → Int) (t' : List Int) (kF' : Nat), v7 = .int .i64 vx ∧ Hid (NetAt wq B M Tb (.slice A l.length c) kF' F' t' G ∧ t'.length = l.length ∧ k ≤ kw ∧ kF' ≤ kF + (kw - k) ∧ (∀ x y, -(kF' : Int) ≤ F' x y ∧ F' x y ≤ kF') ∧ wayN G k vx F' t' = some r ∧ Below w00.heap.size w00 wq ∧ w.heap.size ≤ wq.heap.size ∧ wq.ownsRow w.heap.size 3 1 v5 (out ++ [gn]).length (nums .i64 (out ++ [gn]))))
          case atStart => exact ⟨1, F, t, kF, rfl, Lib.hid ⟨HN5.out, HN.out.1, Nat.le_refl _, Nat.le_add_right _ _, HN.out.2.2.1, HW.out.1, HB5.out⟩⟩
          case round =>
            obtain ⟨vx, F', t', kF', rfl, HJ⟩ := hrel
            obtain ⟨wq, rfl⟩ : ∃ wq : World, wq = wr := ⟨_, rfl⟩
            cases vx with
            | zero =>
              have HRES : Hid ((F', t') = r) := Lib.hid (by
                have h := HJ.out.2.2.2.2.2.1
                unfold wayN at h
                exact Option.some.inj h)
              go_wp2_with fail
              go_roundw
              case rel =>
                have h := HJ.out
                refine ⟨j + 1, by omega, by go_num, Lib.hid ⟨F', t', out ++ [gn], G, kF', h.1, h.2.1, ?_, h.2.2.2.2.1, h.2.2.2.2.2.2.1, h.2.2.2.2.2.2.2.1, h.2.2.2.2.2.2.2.2, by rw [List.length_append]; simp; exact hol, ?_⟩⟩
                · have h1 := h.2.2.2.1
                  have h2 := HN.out.2.1
                  have h3 := HK.out.2.1
                  omega
                · have h1 := HW.out.2
                  rw [← HRES.out, ← HGN.out] at h1
                  exact h1
              case measure => simp [intOf]; omega
            | succ v =>
              obtain ⟨k', rfl⟩ : ∃ k', gk = k' + 1 := by
                cases gk with
                | zero => have h := HJ.out.2.2.2.2.2.1; simp [wayN] at h
                | succ q => exact ⟨q, rfl⟩
              have hkb : kF' < 100000 := by
                have h1 := HJ.out.2.2.2.1
                have h2 := HN.out.2.1
                have h3 := HK.out.2.1
                omega
              obtain ⟨hv62, u, hGu, hu62, _⟩ := use_any B M Tb kF' _ F' t' G G k' v w00.heap.size r wq HJ.out.1 (by have := HJ.out.2.1; have := HL.out.1; omega) hkb HJ.out.2.2.2.2.1 HWB.out HJ.out.2.2.2.2.2.1
              have HU := Lib.hid (fun (W : World) (hW : Below wq.heap.size wq W) => (use_any B M Tb kF' _ F' t' G G k' v w00.heap.size r W (HJ.out.1.below hW) (by have := HJ.out.2.1; have := HL.out.1; omega) hkb HJ.out.2.2.2.2.1 HWB.out HJ.out.2.2.2.2.2.1))
              have v0 : (0 : Int) ≤ ((v + 1 : Nat) : Int) := by omega
              have v62 : ((v + 1 : Nat) : Int) < 62 := by omega
              have vne : ((v + 1 : Nat) : Int) ≠ 0 := by omega
              obtain ⟨vi, hvi⟩ : ∃ vi : Nat, vi = v + 1 := ⟨_, rfl⟩
              have b1 := HJ.out.1.box.cell (62 + (v + 1)) (by omega)
              have b2 := HJ.out.1.box.cell (124 + (v + 1)) (by omega)
              rw [show 3 + (62 + (v + 1)) = 65 + vi by omega, hGu] at b1
              rw [show 3 + (124 + (v + 1)) = 127 + vi by omega] at b2
              obtain ⟨go, hgo⟩ : ∃ go, go = G (124 + (v + 1)) := ⟨_, rfl⟩
              rw [← hgo] at b2
              have HGO := Lib.hid (And.intro hgo (And.intro hGu hvi))
              have HVV := Lib.hid (And.intro hv62 (And.intro hu62 hkb))
              rw [← hvi] at v0 v62 vne ⊢
              have q1 := kept_cell' b1
              have q2 := kept_cell' b2
              clear b1 b2 hgo hGu hvi hv62 hu62 hkb
              go_wp2_with fail
              refine wp_region_kept_tail 17 wq.heap.size wq (by kernel_rfl) (by kernel_rfl) (Below.refl _ _) ?_
              simp only [List.take_succ_cons, List.take_zero, List.drop_succ_cons, List.drop_zero]
              repeat (go_big_quiet_step (fail))
              refine wpQuiet_nil ?_
              rintro _ ⟨X, rfl⟩
              obtain ⟨V, hV⟩ : ∃ V, V = X.1 := ⟨_, rfl⟩
              have hX := X.2
              rw [← hV] at hX ⊢
              clear hV X q1 q2
              have HX := Lib.hid hX
              clear hX
              have HUV : Hid (Calls Try.prog 71 #[.pointer (some ⟨B, 0, none⟩), .agg #[.int .i64 (u : Int), .int .i64 (vi : Int)], .int .i64 go] V
                  fun e w' => e = .returned (.tuple #[]) ∧ ∃ F'' t'' kF'', NetAt w' B M Tb (.slice A l.length c) kF'' F'' t'' G ∧ t''.length = t'.length ∧ kF'' ≤ kF' + 1 ∧ (∀ x y, -(kF'' : Int) ≤ F'' x y ∧ F'' x y ≤ kF'') ∧ wayN G k' u F'' t'' = some r ∧ Below w00.heap.size V w' ∧ Others M Tb V w') := Lib.hid (by
                obtain ⟨_, u', hu', _, hc⟩ := HU.out V HX.out
                have e : u' = u := by have := HGO.out.2.1; omega
                rw [e, ← HGO.out.2.2, ← (show go = G (124 + vi) by rw [HGO.out.2.2]; exact HGO.out.1)] at hc
                exact hc)
              clear HU
              go_wp2_with (go_at_call 71; refine HUV.out.mono ?_; rintro e w8 ⟨rfl, F2, t2, kF2, h8⟩; have b1 := h8.1.box.cell (62 + (v + 1)) (by have := HVV.out.1; omega); rw [show 3 + (62 + (v + 1)) = 65 + vi by have := HGO.out.2.2; omega, HGO.out.2.1] at b1; have H8 := Lib.hid h8; clear h8)
              go_roundg k'
              case measure => omega
              case rel =>
                have h := HJ.out
                have h8 := H8.out
                refine ⟨u, F2, t2, kF2, rfl, Lib.hid ⟨h8.1, h8.2.1.trans h.2.1, by have := h.2.2.1; omega, ?_, h8.2.2.2.1, h8.2.2.2.2.1, ?_, ?_, ?_⟩⟩
                · have h1 := h.2.2.2.1
                  have h2 := h8.2.2.1
                  have h3 := h.2.2.1
                  omega
                · exact (h.2.2.2.2.2.2.1.trans (HX.out.mono (Nat.le_trans HL.out.2.1 h.2.2.2.2.2.2.2.1))).trans h8.2.2.2.2.2.1
                · exact Nat.le_trans h.2.2.2.2.2.2.2.1 (Nat.le_trans HX.out.size h8.2.2.2.2.2.1.size)
                · have ho := own_below h.2.2.2.2.2.2.2.2 HX.out
                  exact own_others ho h8.2.2.2.2.2.2 HLT.out.2.1 HLT.out.2.2
      · have hnl : ¬ (j : Int) < (many : Int) := by omega
        go_wp2_with fail
        go_meet
        case rel =>
          obtain ⟨F, t, out, G1, kF, hn, ht, hkF, hF, hb, hsz, hown, hol, hps⟩ := HI.out
          rw [show many - j = 0 by omega, pushL] at hps
          obtain ⟨G, hs, hps⟩ := Option.map_eq_some_iff.1 hps
          exact Lib.hid ⟨F, t, out, G1, G, kF, hn, ht, by omega, hF, hb, hsz, hown, by omega, hs, hps.symm⟩
  case rest =>
    obtain ⟨F, t, out, G1, G, kF, hn, ht, hkF, hF, hb, hsz, hown, hol, hs, hres⟩ := hcut.out
    have HSR := Lib.hid (HSE.out kF F t G1 G wc hn ht hb hs)
    have HN := Lib.hid (And.intro ht (And.intro hkF (And.intro hF (And.intro hb (And.intro hsz (And.intro hown (And.intro hol hres)))))))
    clear hn ht hkF hF hb hsz hown hol hs hres hcut
    go_upto_region 14 with (go_at_call 70; refine HSR.out.mono ?_; rintro e w1 ⟨rfl, hn1, ho1⟩; have HN1 := Lib.hid (And.intro hn1 ho1); clear hn1 ho1)
    have c1 := HN1.out.1.box.c1
    have HB1 : Hid (Below w00.heap.size w00 w1 ∧ w.heap.size ≤ w1.heap.size ∧ w1.ownsRow w.heap.size 3 1 u5 out.length (nums .i64 out)) := Lib.hid (by
      have h1 := HN.out
      exact ⟨h1.2.2.2.1.trans (HN1.out.2.below (Nat.le_trans HL.out.2.1 h1.2.2.2.2.1) HWB.out.1), Nat.le_trans h1.2.2.2.2.1 HN1.out.2.size, own_hole h1.2.2.2.2.2.1 HN1.out.2 HLT.out.1⟩)
    obtain ⟨D, hown, hD, hfl⟩ := HN1.out.1.flow
    have HD := Lib.hid (And.intro hD hfl)
    clear hD hfl
    go_wp2_with (first | (at_range; refine wpList_range_own _ rfl _ 75 rfl 84 3 pair_law Try.underlying75 _ M kF _ rfl hown ?_; intro V0 hrg0 hg0 hs0))
    have HG := Lib.hid (And.intro hrg0 hg0)
    clear hrg0 hg0 hs0 hown c1
    go_frame
    go_loopw [67] (fun _ wr => ∃ (D : DataW Unit) (left : Lit → Bool) (cnt : Nat), Hid (wr.ranges Try.prog 84 (plainElem Try.prog 3) M w1.heap.size kF D left cnt ∧ IsMap D ∧ FlowIs D F ∧ (∀ x, x < w1.heap.size → x ≠ M → wr.heap[x]? = w1.heap[x]?) ∧ Below w00.heap.size w1 wr)) (fun _ wr => wr.rangeLeft M w1.heap.size)
    case atStart => exact ⟨_, _, _, Lib.hid ⟨HG.out.1, HD.out.1, HD.out.2, fun x hx _ => HG.out.2.block x hx (by simp), (Below.refl _ _).grown HG.out.2 (Nat.le_trans HL.out.2.1 HB1.out.2.1) (fun j e => by cases e)⟩⟩
    case round =>
      obtain ⟨D1, left, cnt, HI⟩ := hrel
      have hrg := HI.out.1
      have hbz : Below w00.heap.size w00 wr := HB1.out.1.trans HI.out.2.2.2.2
      go_wp2_with (first | (at_next; refine wpList_next_ranges _ rfl _ rfl 84 pair_law (plainElem Try.prog 3) (fun x : Int × Int => .agg #[.int .i64 x.1, .int .i64 x.2]) (Value.int .i64) (fun key kl hk => by obtain ⟨x, y, hx, _⟩ := pair_inv hk; exact ⟨(x, y), hx⟩) (fun v y hv => by obtain ⟨c, hc, _⟩ := plainElem_int_inv Try.underlying3 hv; exact ⟨c, hc⟩) M w1.heap.size kF _ _ _ rfl hrg ?_ ?_))
      · intro _ hleft
        clear hrg hleft
        go_wp2_with fail
        go_ret
        have h := HN.out
        have hsz1 := HB1.out.2.1
        refine ⟨_, kF, rfl, ?_, ?_, ?_, h.2.1, ?_, hbz, ?_⟩
        · rw [h.2.2.2.2.2.2.2]
          obtain ⟨h1, h2⟩ := HB1.out.2.2
          refine ⟨h1, ?_⟩
          rcases h2 with h2 | ⟨g, cap, cur, e, hg, hh, r⟩
          · exact .inl h2
          · exact .inr ⟨g, cap, cur, e, hg, (HI.out.2.2.2.1 g (heap_lt hh) (by have := HLT.out.2.1; omega)).trans hh, r⟩
        · rw [h.2.2.2.2.2.2.2]
          have hn := HN1.out.1
          exact ⟨(HI.out.2.2.2.1 B (heap_lt hn.box) hn.ne.1).trans hn.box, ⟨D1, HI.out.1.owns, HI.out.2.1, HI.out.2.2.1⟩, (HI.out.2.2.2.1 Tb (heap_lt hn.taken) (Ne.symm hn.ne.2.2)).trans hn.taken, hn.ne⟩
        · rw [h.2.2.2.2.2.2.2]; exact h.1
        · rw [h.2.2.2.2.2.2.2]; exact h.2.2.1
        · rw [h.2.2.2.2.2.2.2]; exact h.2.2.2.2.2.2.1
      · intro x y c kl d dl V2 cnt2 hkey hlk hval hat hrg1 hlt1 hg1 hs1 hen
        obtain ⟨x', y', ex, hwx, hwy, rfl⟩ := pair_inv hkey
        obtain ⟨rfl, rfl⟩ : x = x' ∧ y = y' := by simpa using ex
        obtain ⟨c', ec, hy', _⟩ := plainElem_int_inv Try.underlying3 hval
        obtain rfl : c = c' := by simpa using ec
        have hd : d = .lit (.int .i64 c) := congrArg Prod.fst hy'
        have hat' := fun zd => (hat zd).trans hd
        have hrg2 := hrg1.alloc (.cells #[.int .i64 x, .int .i64 y] 84)
        have hfr : ∀ z, z < w1.heap.size → z ≠ M → (V2.alloc (.cells #[.int .i64 x, .int .i64 y] 84)).heap[z]? = w1.heap[z]? := fun z hz hM => by
          have h1 := HI.out.2.2.2.1 z hz hM
          have hzr : z < wr.heap.size := by have := HI.out.2.2.2.2.size; omega
          rw [Below.heap_alloc _ _ _ (by rw [hs1]; exact hzr), hg1.block z hzr (fun e => by cases e; omega)]
          exact h1
        have hbw : Below w00.heap.size w1 (V2.alloc (.cells #[.int .i64 x, .int .i64 y] 84)) := by
          have h2 := HI.out.2.2.2.2
          have h3 := Nat.le_trans HL.out.2.1 HB1.out.2.1
          exact (h2.grown hg1 (Nat.le_trans h3 h2.size) (fun j e => by cases e; exact h3)).alloc (by rw [hs1]; exact Nat.le_trans h3 h2.size) _
        have HX := Lib.hid (And.intro hrg1 (And.intro hlt1 (And.intro hat' (And.intro hfr hbw))))
        have HWX := Lib.hid (And.intro hwx hwy)
        have hMV := hrg2.owns.lt
        have cm : (V2.alloc (.cells #[.int .i64 x, .int .i64 y] 84)).cell? ⟨B, 1, none⟩ = some (.map (some M)) := by
          have h1 := HN1.out.1.box.c1
          rw [World.cell?_of_block (w := w1) (hfr B (heap_lt HN1.out.1.box) HN1.out.1.ne.1)]; exact h1
        clear hrg1 hlt1 hat' hat hg1 hs1 hkey hval hwx hwy ex ec hrg hlk hd hy' hfr hbw hbz
        have hz0 := run_zero
        have hne := fun W => ends_ne W x y
        by_cases hc0 : c = 0
        · subst hc0
          cases hxy : (x == 0 && y == 0)
          · rw [hxy] at hne
            clear hxy
            obtain ⟨VA, hVA⟩ : ∃ VA, VA = V2.alloc (.cells #[.int .i64 x, .int .i64 y] 84) := ⟨_, rfl⟩
            have a0 : VA.cell? ⟨V2.heap.size, 0, none⟩ = some (.int .i64 x) := by rw [hVA]; simp [go_sem]
            have a1 : VA.cell? ⟨V2.heap.size, 1, none⟩ = some (.int .i64 y) := by rw [hVA]; simp [go_sem]
            rw [← hVA] at hrg2 hMV cm HX
            go_upto_region 18 with fail
            rw [← hVA]
            clear hVA
            have q0 := kept_cell' a0
            have q1 := kept_cell' a1
            have q2 := kept_cell' cm
            have HRG2 := Lib.hid hrg2
            clear a0 a1 cm hrg2 hne hz0
            refine wp_region_kept_tail 5 VA.heap.size VA (by kernel_rfl) (by kernel_rfl) (Below.refl _ _) ?_
            simp only [List.take_succ_cons, List.take_zero, List.drop_succ_cons, List.drop_zero]
            repeat (go_big_quiet_step (fail))
            refine wpQuiet_nil ?_
            rintro _ ⟨X, rfl⟩
            obtain ⟨V, hV⟩ : ∃ V, V = X.1 := ⟨_, rfl⟩
            have hX := X.2
            rw [← hV] at hX ⊢
            clear hV X q0 q1 q2
            have hrg3 := HRG2.out.kept (grown_of_keep hX) (by simp) (by simp)
            have HXV := Lib.hid hX
            clear hX
            go_wp2_with (first | (at_delete; refine wpList_delete_ranges _ rfl _ _ 75 84 rfl 3 pair_law Try.underlying75 _ M w1.heap.size kF _ _ _ rfl hrg3 _ _ rfl (pair_key HWX.out.1 HWX.out.2) ?_; intro V3 cnt3 hrg4 hle3 hturn; have H3 := Lib.hid (And.intro hrg4 (And.intro hle3 hturn)); clear hrg4 hle3 hturn))
            go_frame
            go_roundw
            case rel =>
              refine ⟨_, _, _, Lib.hid ⟨H3.out.1, IsMap.del HI.out.2.1 _, FlowIs.drop HI.out.2.1 HI.out.2.2.1 HWX.out.1 HWX.out.2 HX.out.2.2.1, fun z hz hM => ?_, ?_⟩⟩
              · have h1 := HX.out.2.2.2.1 z hz hM
                have hz2 : z < VA.heap.size := by have := HX.out.2.2.2.2.size; omega
                exact (H3.out.2.2.grown.block z (by have := HXV.out.size; omega) (fun e => hM (by cases e; rfl))).trans ((HXV.out.block z hz2).trans h1)
              · have h3 := Nat.le_trans HL.out.2.1 HB1.out.2.1
                have h4 := HX.out.2.2.2.2
                exact (h4.trans (HXV.out.mono (Nat.le_trans h3 h4.size))).grown H3.out.2.2.grown (Nat.le_trans h3 (Nat.le_trans h4.size HXV.out.size)) (fun j e => by cases e; exact HWB.out.2.1)
            case measure =>
              rw [H3.out.1.left_eq, HI.out.1.left_eq]
              have := H3.out.2.1
              have := HX.out.2.1
              omega
          · rw [hxy] at hne
            clear hxy
            go_wp2_with fail
            go_roundw
            case rel => exact ⟨D1, _, _, Lib.hid ⟨HX.out.1.alloc _, HI.out.2.1, HI.out.2.2.1, HX.out.2.2.2.1, HX.out.2.2.2.2⟩⟩
            case measure => rw [(HX.out.1.alloc _).left_eq, HI.out.1.left_eq]; exact HX.out.2.1
        · have hcb : (c == 0) = false := beq_eq_false_iff_ne.2 hc0
          clear hc0
          go_wp2_with fail
          go_roundw
          case rel => exact ⟨D1, _, _, Lib.hid ⟨HX.out.1.alloc _, HI.out.2.1, HI.out.2.2.1, HX.out.2.2.2.1, HX.out.2.2.2.2⟩⟩
          case measure => rw [(HX.out.1.alloc _).left_eq, HI.out.1.left_eq]; exact HX.out.2.1
end Go.Proofs.Ytmfonbonfhngnaa.Hand

/- The node to which something flows. -/
namespace Go.Proofs.Ytmfonbonfhngnaa.Hand
set_option linter.unusedVariables false
set_option linter.unusedSimpArgs false
open Go.RowKit Go.Maps Go.Proofs.YtmfonbonfhngnaaW.PrintWords Go.Proofs.YtmfonbonfhngnaaW.PrintLast Go.Proofs.YtmfonbonfhngnaaW.PrintMore

/-- the first node from one on to which something flows; 1 if there is none -/
def nextTo (F : Nat → Nat → Int) (v : Nat) : Nat → Nat → Nat
  | 0, _ => 1
  | d + 1, b => if 0 < F v b then b else nextTo F v d (b + 1)
/-- does a way lead over the log of a node? -/
def overB (t : List Int) (v : Nat) : Bool := decide (2 ≤ v) && (v % 2 == 0) && (rd t ((v / 2 - 1 : Nat) : Int) == 1)
def nextF (n : Nat) (F : Nat → Nat → Int) (t : List Int) (v : Nat) : Nat := if overB t v then v + 1 else nextTo F v (2 * n + 1) 1

set_option maxHeartbeats 4000000 in
set_option maxRecDepth 100000 in
theorem next_any (B M Tb kF : Nat) (A : Option Addr) (c : Nat) (l : List Int) (F : Nat → Nat → Int) (t : List Int) (G : Nat → Int) (v : Nat) (w : World) (h : NetAt w B M Tb (.slice A l.length c) kF F t G) (hl : l.length ≤ 30) (ht : t.length = l.length) (hv : v < 2 * l.length + 2) :
    Calls Try.prog 73 #[.pointer (some ⟨B, 0, none⟩), .int .i64 v] w fun e w' => e = .returned (.int .i64 (nextF l.length F t v : Nat)) ∧ w = w' := by
  have v0 : (0 : Int) ≤ (v : Int) := by omega
  have v62 : (v : Int) < 62 := by omega
  have c0 := h.box.c0
  have c1 := h.box.c1
  have c2 := h.box.c2
  have hlk : ∀ b : Nat, b < 1000 → (Instr.lookup 75 (.map (some M)) (.agg #[.int .i64 (v : Int), .int .i64 (b : Int)]) false).run Try.prog w = .ok (.int .i64 (F v b)) w := fun b hb => h.flow.look (by omega) hb
  have HL := Lib.hid (And.intro hl ht)
  have HLK := Lib.hid hlk
  have hv2l : 2 ≤ v → v % 2 = 0 → v / 2 - 1 < t.length := by omega
  have hct := fun (i : Nat) (hi : i < t.length) => h.cellT hi
  have n62 : (2 : Int) * (l.length : Int) + 2 ≤ 62 := by omega
  have HRES : ∀ b : Bool, overB t v = b → Hid (nextF l.length F t v = if b then v + 1 else nextTo F v (2 * l.length + 1) 1) := fun b e => Lib.hid (by rw [nextF, e])
  obtain ⟨R, hR⟩ : ∃ R, R = nextF l.length F t v := ⟨_, rfl⟩
  rw [← hR] at HRES ⊢
  obtain ⟨n2, hn2⟩ : ∃ n2 : Nat, n2 = 2 * l.length + 2 := ⟨_, rfl⟩
  have hn2i : (2 : Int) * (l.length : Int) + 2 = (n2 : Int) := by omega
  have n2b : (n2 : Int) ≤ 62 := by omega
  have HN2 := Lib.hid hn2
  clear hlk hl ht hv h hR hn2
  by_cases h2 : 2 ≤ v
  · have hv2 : (2 : Int) ≤ (v : Int) := by omega
    by_cases hm : v % 2 = 0
    · have dm : (v : Int) % 2 = 0 := by omega
      have dmb : ((v : Int) % 2 == 0) = true := beq_iff_eq.2 dm
      obtain ⟨i, hi⟩ : ∃ i, i = v / 2 - 1 := ⟨_, rfl⟩
      have hdv : (v : Int) / 2 - 1 = (i : Int) := by omega
      have hit := hv2l h2 hm
      rw [← hi] at hit
      have ct := hct i hit
      have i0 : (0 : Int) ≤ (i : Int) := by omega
      have i1 : (i : Int) < (t.length : Int) := by omega
      obtain ⟨x, hx⟩ : ∃ x, x = rd t (i : Int) := ⟨_, rfl⟩
      rw [← hx] at ct
      by_cases g : x = 1
      · have HF := HRES true (by simp [overB, h2, hm, ← hi, ← hx, g])
        subst g
        clear HRES hx hi hct hv2l hm dm
        go_enter Try.func73, Try.ntmps73
        go_wp2_with fail
        go_ret
        exact ⟨by rw [HF.out]; rfl, rfl⟩
      · have HF := HRES false (by simp [overB, h2, hm, ← hi, ← hx, g])
        have gb : (x == 1) = false := beq_eq_false_iff_ne.2 g
        clear HRES hx hi hct hv2l hm dm g
        go_enter Try.func73, Try.ntmps73
        go_wp2_with fail
        go_loop [5] (fun x => ∃ b : Nat, 1 ≤ b ∧ b ≤ n2 ∧ x = .int .i64 b ∧ Hid (R = nextTo F v (n2 - b) b)) (fun x => 100 - (intOf x).toNat)
        case atStart => exact ⟨1, Nat.le_refl _, by have := HN2.out; omega, rfl, Lib.hid (by rw [HF.out, if_neg (by simp), show n2 - 1 = 2 * l.length + 1 by have := HN2.out; omega])⟩
        case round =>
          obtain ⟨b, hb1, hb2, rfl, HB⟩ := hrel
          by_cases hlt : b < n2
          · have hlti : (b : Int) < (n2 : Int) := by omega
            have hlk := HLK.out b (by omega)
            have b62 : (b : Int) < 62 := by omega
            have hst : nextTo F v (n2 - b) b = if 0 < F v b then b else nextTo F v (n2 - (b + 1)) (b + 1) := by rw [show n2 - b = (n2 - (b + 1)) + 1 by omega, nextTo]
            by_cases g : 0 < F v b
            · have gd : decide (0 < F v b) = true := decide_eq_true g
              have HE : Hid (R = b) := Lib.hid (by rw [HB.out, hst, if_pos g])
              clear hst g
              go_wp2_with fail
              go_ret
              exact ⟨by rw [HE.out]; rfl, rfl⟩
            · have gd : decide (0 < F v b) = false := decide_eq_false g
              have HE : Hid (R = nextTo F v (n2 - (b + 1)) (b + 1)) := Lib.hid (by rw [HB.out, hst, if_neg g])
              clear hst g
              go_wp2_with fail
              go_round
              case rel => exact ⟨b + 1, by omega, by omega, by go_num, HE⟩
              case measure => simp [intOf]; omega
          · have hnl : ¬ (b : Int) < (n2 : Int) := by omega
            have HE : Hid (R = 1) := Lib.hid (by rw [HB.out, show n2 - b = 0 by omega]; rfl)
            go_wp2_with fail
            go_ret
            exact ⟨by rw [HE.out]; rfl, rfl⟩
    · have HF := HRES false (by simp [overB, h2, hm])
      have dmb : ((v : Int) % 2 == 0) = false := beq_eq_false_iff_ne.2 (by omega)
      clear HRES hct hv2l hm
      go_enter Try.func73, Try.ntmps73
      go_wp2_with fail
      go_loop [5] (fun x => ∃ b : Nat, 1 ≤ b ∧ b ≤ n2 ∧ x = .int .i64 b ∧ Hid (R = nextTo F v (n2 - b) b)) (fun x => 100 - (intOf x).toNat)
      case atStart => exact ⟨1, Nat.le_refl _, by have := HN2.out; omega, rfl, Lib.hid (by rw [HF.out, if_neg (by simp), show n2 - 1 = 2 * l.length + 1 by have := HN2.out; omega])⟩
      case round =>
        obtain ⟨b, hb1, hb2, rfl, HB⟩ := hrel
        by_cases hlt : b < n2
        · have hlti : (b : Int) < (n2 : Int) := by omega
          have hlk := HLK.out b (by omega)
          have b62 : (b : Int) < 62 := by omega
          have hst : nextTo F v (n2 - b) b = if 0 < F v b then b else nextTo F v (n2 - (b + 1)) (b + 1) := by rw [show n2 - b = (n2 - (b + 1)) + 1 by omega, nextTo]
          by_cases g : 0 < F v b
          · have gd : decide (0 < F v b) = true := decide_eq_true g
            have HE : Hid (R = b) := Lib.hid (by rw [HB.out, hst, if_pos g])
            clear hst g
            go_wp2_with fail
            go_ret
            exact ⟨by rw [HE.out]; rfl, rfl⟩
          · have gd : decide (0 < F v b) = false := decide_eq_false g
            have HE : Hid (R = nextTo F v (n2 - (b + 1)) (b + 1)) := Lib.hid (by rw [HB.out, hst, if_neg g])
            clear hst g
            go_wp2_with fail
            go_round
            case rel => exact ⟨b + 1, by omega, by omega, by go_num, HE⟩
            case measure => simp [intOf]; omega
        · have hnl : ¬ (b : Int) < (n2 : Int) := by omega
          have HE : Hid (R = 1) := Lib.hid (by rw [HB.out, show n2 - b = 0 by omega]; rfl)
          go_wp2_with fail
          go_ret
          exact ⟨by rw [HE.out]; rfl, rfl⟩
  · have HF := HRES false (by simp [overB, h2])
    have hv2 : ¬ (2 : Int) ≤ (v : Int) := by omega
    clear HRES hct hv2l h2
    go_enter Try.func73, Try.ntmps73
    go_wp2_with fail
    go_loop [5] (fun x => ∃ b : Nat, 1 ≤ b ∧ b ≤ n2 ∧ x = .int .i64 b ∧ Hid (R = nextTo F v (n2 - b) b)) (fun x => 100 - (intOf x).toNat)
    case atStart => exact ⟨1, Nat.le_refl _, by have := HN2.out; omega, rfl, Lib.hid (by rw [HF.out, if_neg (by simp), show n2 - 1 = 2 * l.length + 1 by have := HN2.out; omega])⟩
    case round =>
      obtain ⟨b, hb1, hb2, rfl, HB⟩ := hrel
      by_cases hlt : b < n2
      · have hlti : (b : Int) < (n2 : Int) := by omega
        have hlk := HLK.out b (by omega)
        have b62 : (b : Int) < 62 := by omega
        have hst : nextTo F v (n2 - b) b = if 0 < F v b then b else nextTo F v (n2 - (b + 1)) (b + 1) := by rw [show n2 - b = (n2 - (b + 1)) + 1 by omega, nextTo]
        by_cases g : 0 < F v b
        · have gd : decide (0 < F v b) = true := decide_eq_true g
          have HE : Hid (R = b) := Lib.hid (by rw [HB.out, hst, if_pos g])
          clear hst g
          go_wp2_with fail
          go_ret
          exact ⟨by rw [HE.out]; rfl, rfl⟩
        · have gd : decide (0 < F v b) = false := decide_eq_false g
          have HE : Hid (R = nextTo F v (n2 - (b + 1)) (b + 1)) := Lib.hid (by rw [HB.out, hst, if_neg g])
          clear hst g
          go_wp2_with fail
          go_round
          case rel => exact ⟨b + 1, by omega, by omega, by go_num, HE⟩
          case measure => simp [intOf]; omega
      · have hnl : ¬ (b : Int) < (n2 : Int) := by omega
        have HE : Hid (R = 1) := Lib.hid (by rw [HB.out, show n2 - b = 0 by omega]; rfl)
        go_wp2_with fail
        go_ret
        exact ⟨by rw [HE.out]; rfl, rfl⟩
end Go.Proofs.Ytmfonbonfhngnaa.Hand
