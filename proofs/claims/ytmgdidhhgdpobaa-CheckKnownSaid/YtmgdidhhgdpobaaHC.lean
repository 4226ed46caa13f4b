/- Texts of the claim, joined: HRound, HCounts, HBetween, HBound. -/
import Derived.Test.YtmgdidhhgdpobaaHB
import Derived.OrdersIn
import Derived.Deep.RegionHeld3
import Derived.RangeFuncCalls
import Derived.RangeFuncNested
import Derived.RangeFuncBound
import Derived.RangeFuncLeaves
import Derived.RangeFuncFrom
import Derived.Shelf.Abstract
import Derived.Shelf.RegionOpen
import Derived.OwnWalkIn
import Derived.TacticsInMore
import Derived.LoopNIn
import Derived.LoopIn
import Derived.Deep.DeepCutAuto
/- A region that draws its order, in a round of a loop over a function, at the wide fence: the plain walk in the order of the text serves. -/
namespace Go.Proofs.Ytmgdidhhgdpobaa.Hand
set_option linter.unusedVariables false
set_option linter.unusedSimpArgs false
open Go.RowKit

section
variable {P : Program} {ops : Array Oper} {C : World → Prop} {n : Nat}

theorem quiet_round {o : Oper} {a : Act} {K : Act → Prop} {K' : Act → World → Prop} {Q' : Exit → Act → World → Prop} {w : World} (r : Nat) (hd : ∀ c, o.op ≠ .defer c) (hw : C w) (h : ∀ a w', C w' → K a → K' a w')
    (hh : o.quiet P a C K) : o.wpIn (Fence.wide.inRound r) n P a w K' Q' := by
  obtain ⟨v, h1, h2⟩ := hh
  have h3 := h1 w hw
  unfold Oper.quietAt at h3
  unfold Oper.wpIn
  refine ⟨fun _ _ => trivial, ?_⟩
  rw [Oper.semAt_eq _ _ _ hd]
  generalize (execOp a.eval o).run P w = q at *
  cases q with
  | halt x w' => exact h3.elim
  | ok x w' =>
    cases x with
    | value u =>
      obtain ⟨rfl, rfl⟩ := h3
      exact h _ _ hw h2
    | skip =>
      obtain ⟨rfl, rfl⟩ := h3
      exact h _ _ hw h2
    | enter f args =>
      obtain ⟨rfl, hc⟩ := h3
      exact ⟨fun e => by simp [Fence.wide, Fence.inRound] at e, ((callsIn_wide.2 hc).inRound r).mono fun e w'' ⟨he, hw''⟩ => by subst he; exact h _ _ hw'' h2⟩
    | _ => exact h3.elim

theorem any_round {Q : Act → Prop} {Q' : Exit → Act → World → Prop} (r : Nat) (hd : ∀ (i : Nat) (o : Oper), ops[i]? = some o → ∀ c, o.op ≠ .defer c) (hQ : ∀ a w, C w → Q a → Q' .normal a w) :
    ∀ (fuel : Nat) (listed : Array Bool) (a : Act) (w : World), C w → wpAnyQ P .any ops C Q fuel listed a → wpAnyIn (Fence.wide.inRound r) n P .any ops Q' fuel listed a w
  | 0, _, _, _, hw, h => ⟨h.1, hQ _ _ hw h.2⟩
  | fuel + 1, listed, a, w, hw, h => ⟨fun h0 => hQ _ _ hw (h.1 h0), fun i hi => by
      have hh := h.2 i hi
      unfold qOp at hh
      unfold wpOpIn
      split
      · rename_i ho; simp only [ho] at hh; exact any_round r hd hQ fuel _ _ _ hw hh
      · rename_i o ho
        simp only [ho] at hh
        split
        · rename_i hg; simp only [hg, if_true] at hh
          exact quiet_round r (hd i o ho) hw (fun a' w' hw' => any_round r hd hQ fuel _ a' w' hw') hh
        · rename_i hg; simp only [hg] at hh
          exact ⟨fun _ _ => trivial, any_round r hd hQ fuel _ _ _ hw hh⟩⟩

/-- does no operation defer? -/
def calmB (ops : Array Oper) : Bool := ops.toList.all fun o => match o.op with | .defer _ => false | _ => true
theorem calm_spec (h : calmB ops = true) : ∀ (i : Nat) (o : Oper), ops[i]? = some o → ∀ c, o.op ≠ .defer c := by
  intro i o ho c hc
  have hm : o ∈ ops.toList := by
    obtain ⟨hi, e⟩ := Array.getElem?_eq_some_iff.1 ho
    rw [← e]; exact Array.getElem_mem_toList hi
  have := List.all_eq_true.1 h o hm
  rw [hc] at this
  cases this

theorem wpIn_region_kept {id : Nat} {Q : Exit → Act → World → Prop} {a : Act} {w : World} {l : List Oper} (r : Nat) (m : Nat) (w0 : World) (hm : P.follows .mixedOrders = true) (hB : Region.lexB .any l.toArray = true) (hd : calmB l.toArray = true) (hb : Below m w0 w)
    (h : wpQuiet P l.toArray (fun w' => ∃ x : Kw m w0, w' = x.1) (fun a' => ∀ w', (∃ x : Kw m w0, w' = x.1) → Q .normal a' w') l a) : (Code.region id l.toArray true).wpIn (Fence.wide.inRound r) n P Q a w := by
  simp only [Region.lexB, Bool.and_eq_true] at hB
  have hC : ∃ x : Kw m w0, w.drew = x.1 := ⟨⟨_, hb.drew⟩, rfl⟩
  refine wpIn_region_any hm (any_round r (calm_spec hd) (C := fun w' => ∃ x : Kw m w0, w' = x.1) (Q := fun a' => ∀ w', (∃ x : Kw m w0, w' = x.1) → Q .normal a' w') (fun _ w' hw' h => h w' hw') _ _ _ _ hC ?_)
  have := wpAnyQ_lex (P := P) (C := fun w' => ∃ x : Kw m w0, w' = x.1) (md := .any) hB.1 l 0 (Array.replicate l.toArray.size false) a (by simp) (by simpa using hB.2) h
  simpa using this

theorem upon_round {o : Oper} {a : Act} {K : Act → World → Prop} {Q : Exit → Act → World → Prop} (r : Nat) (q : Result Next) (h : o.upon P a K Q q) : o.uponIn (Fence.wide.inRound r) n P a K Q q := by
  cases q with
  | halt x w' =>
    cases x with
    | panic u => exact h
    | _ => exact h.elim
  | ok x w' =>
    cases x with
    | value u => exact h
    | skip => exact h
    | defer d => exact h
    | enter f args => exact ⟨fun e => by simp [Fence.wide, Fence.inRound] at e, (callsIn_wide.2 h).inRound r⟩
    | row row args => exact ⟨fun e => by simp [Fence.wide, Fence.inRound] at e, fun c cs _ => let ⟨v, w', q, s⟩ := h c cs; ⟨v, w', q, stepsIn_wide.2 s⟩⟩
    | _ => exact h.elim
theorem any_of_round {Q : Exit → Act → World → Prop} (r : Nat) (hd : ∀ (i : Nat) (o : Oper), ops[i]? = some o → ∀ c, o.op ≠ .defer c) (hno : ¬ LetsOut Q) :
    ∀ (fuel : Nat) (listed : Array Bool) (a : Act) (w : World), wpAny P .any ops Q fuel listed a w → wpAnyIn (Fence.wide.inRound r) n P .any ops Q fuel listed a w
  | 0, _, _, _, h => h
  | fuel + 1, listed, a, w, h => ⟨h.1, fun i hi => by
      have hh := h.2 i hi
      unfold wpOp at hh
      unfold wpOpIn
      split
      · rename_i ho; simp only [ho] at hh; exact any_of_round r hd hno fuel _ _ _ hh
      · rename_i o ho
        simp only [ho] at hh
        split
        · rename_i hg
          simp only [hg, if_true] at hh
          refine ⟨fun _ _ => trivial, ?_⟩
          rw [Oper.semAt_eq _ _ _ (hd i o ho)]
          refine upon_round r _ ?_
          have := Oper.wp_mono (K' := wpAnyIn (Fence.wide.inRound r) n P .any ops Q fuel (listed.setIfInBounds i true)) (fun a w h => any_of_round r hd hno fuel _ a w h) (hh.resolve_right fun h => hno h.2)
          exact this
        · rename_i hg; simp only [hg] at hh
          exact ⟨fun _ _ => trivial, any_of_round r hd hno fuel _ _ _ hh⟩⟩

theorem wpIn_region_held {id : Nat} {Q : Exit → Act → World → Prop} {a : Act} {w : World} (r : Nat) (S : World → Prop) (hm : P.follows .mixedOrders = true) (hd : calmB ops = true) (hno : ¬ LetsOut Q)
    (h : wpAnyH P .any ops Q S ops.size (Array.replicate ops.size false) a w.drew) : (Code.region id ops true).wpIn (Fence.wide.inRound r) n P Q a w :=
  wpIn_region_any hm (any_of_round r (calm_spec hd) hno _ _ _ _ (wpAny_of_held _ _ _ _ h))

variable {md : Region.Mode} {S : World → Prop} {Q : Exit → Act → World → Prop}
theorem wpIn_held_list {l : List Oper} {k id : Nat} {a : Act} {w : World} (hk : l.length = k) (r : Nat) (S : World → Prop) (hm : P.follows .mixedOrders = true) (hd : calmB l.toArray = true) (hno : ¬ LetsOut Q)
    (h : wpAnyH P .any l.toArray Q S k (Array.replicate k false) a w.drew) : (Code.region id l.toArray true).wpIn (Fence.wide.inRound r) n P Q a w := by
  subst hk
  exact wpIn_region_held r S hm hd hno h
theorem take_list {l : List Oper} {i : Nat} {oi : Oper} {v : Value} {fuel : Nat} {listed : Array Bool} {a : Act} {w : World} (hi : l[i]? = some oi)
    (hs : Region.noSelect l.toArray = true) (hf : Region.free md l.toArray listed i = true) (hr : (Region.ready md l.toArray listed).contains i = true) (hQ : ∀ c a w, Q (.panic c) (a.put oi.dst v) w → Q (.panic c) a w)
    (hw : Region.wanted oi (yielded l.toArray a.tmps) = true) (hy : ∀ w, S w → (execOp a.eval oi).run P w = .ok (.value v) w) (hS : S w)
    (h : wpAnyH P md l.toArray Q S fuel (listed.setIfInBounds i true) (a.put oi.dst v) w) : wpAnyH P md l.toArray Q S (fuel + 1) listed a w :=
  wpAnyH_take (by simpa using hi) hs hf hr hQ (Or.inl ⟨hw, hy⟩) hS h
theorem step_list {l : List Oper} {i : Nat} {o : Oper} {fuel : Nat} {listed : Array Bool} {a : Act} {w : World} (hr : Region.ready md l.toArray listed = [i]) (hi : l[i]? = some o) (hw : Region.wanted o (yielded l.toArray a.tmps) = true)
    (h : ∀ K : Act → World → Prop, (∀ a w, S w → wpAnyH P md l.toArray Q S fuel (listed.setIfInBounds i true) a w → K a w) → Oper.wp P o a w K Q) : wpAnyH P md l.toArray Q S (fuel + 1) listed a w :=
  wpAnyH_ready hr (by simp) (AllReadyH.cons (by simpa using hi) (fun K hK => by rw [if_pos hw]; exact h K (fun a w hS hh => hK a w hS (fun _ => hh))) AllReadyH.nil)
end
end Go.Proofs.Ytmgdidhhgdpobaa.Hand

/- The iterator counts has its contract: all numbers of wrong logs, with in how many samples at most so many are found. -/
namespace Go.Proofs.Ytmgdidhhgdpobaa.Hand
set_option linter.unusedVariables false
set_option linter.unusedSimpArgs false
open Go.RowKit Go.Shelf Go.Maps Go.Proofs.YtmgdidhhgdpobaaW.PrintWords Go.Proofs.YtmgdidhhgdpobaaW.PrintLast Go.Proofs.YtmgdidhhgdpobaaW.PrintMore Go.Proofs.Ytmgdidhhgdpobaa.PrA
attribute [local go_sem] Oper.semAt_some

/-- all that lay stays but for one block -/
def KeepBut (n B : Nat) (W W' : World) : Prop := W.heap.size ≤ W'.heap.size ∧ ∀ k, k < n → k ≠ B → W'.heap[k]? = W.heap[k]?
theorem KeepBut.refl (n B : Nat) (W : World) : KeepBut n B W W := ⟨Nat.le_refl _, fun _ _ _ => rfl⟩
theorem KeepBut.trans {n B : Nat} {X Y Z : World} (h : KeepBut n B X Y) (k : KeepBut n B Y Z) : KeepBut n B X Z := ⟨Nat.le_trans h.1 k.1, fun i h1 h2 => (k.2 i h1 h2).trans (h.2 i h1 h2)⟩
theorem KeepBut.of_below {n B m : Nat} {X Y : World} (h : Below m X Y) (hn : n ≤ m) : KeepBut n B X Y := ⟨h.size, fun k h1 _ => h.block k (Nat.lt_of_lt_of_le h1 hn)⟩
theorem KeepBut.putObj {n B : Nat} {w : World} (hn : n ≤ w.heap.size) (W : World) (l : Nat) (o o' : Obj) (hl : w.heap.size ≤ l) (h : W.heap[l]? = some o) (_ : o.isCells = false) (_ : o.isWalk = false) : KeepBut n B W (W.putObj l o') :=
  KeepBut.of_below ((Below.refl n W).grown (grownBy_putObj' W l o') (by have := (Array.getElem?_eq_some_iff.1 h).1; omega) (fun k e => by cases e; omega)) (Nat.le_refl _)
theorem KeepBut.cell {n B : Nat} {X Y : World} (h : KeepBut n B X Y) {p : Addr} (hp : p.block < n) (hb : p.block ≠ B) : Y.cell? p = X.cell? p := World.cell?_of_block (h.2 p.block hp hb)
theorem KeepBut.frozen {n B : Nat} {X Y : World} (h : KeepBut n B X Y) {p : Addr} (hp : p.block < n) (hb : p.block ≠ B) : Y.frozen? p = X.frozen? p := World.frozen?_of_block (h.2 p.block hp hb)

theorem grown_of_below {W W' : World} (h : Below W.heap.size W W') : W.grownBy W' none := ⟨h.os, h.tape, h.output, h.size, fun k hk _ => h.block k hk⟩

abbrev UpTo (a : Nat) := { k : Nat // k ≤ a }
/-- what comes with a number -/
def countsEnc (a s f : Nat) (x : UpTo a) : Array Value := #[.int .i64 (x.1 : Int), .int .i64 (uptoN (a : Int) (x.1 : Int) (s : Int) (f : Int))]

theorem counts_any (a s f : Int) (w : World) : Calls Try.prog 67 #[.int .i64 a, .int .i64 s, .int .i64 f] w fun e w' =>
    e = .returned (.func (.func 78) #[] #[.pointer (some ⟨w.heap.size, 0, none⟩), .pointer (some ⟨w.heap.size + 1, 0, none⟩), .pointer (some ⟨w.heap.size + 2, 0, none⟩)]) ∧
    w' = ((w.alloc (.cells #[.int .i64 a] 3)).alloc (.cells #[.int .i64 s] 3)).alloc (.cells #[.int .i64 f] 3) := by
  go_enter Try.func67, Try.ntmps67
  go_wp2
  go_ret
  exact ⟨rfl, rfl⟩

set_option maxRecDepth 100000 in
set_option maxHeartbeats 4000000 in
theorem counts_stops (a s f b n0 B : Nat) (ha : a ≤ 50) (hs : s ≤ a) (hf : f ≤ s) (w : World) (hn0 : n0 ≤ w.heap.size) (hb : b + 2 < n0) (hB : B < b)
    (c1 : w.cell? ⟨b, 0, none⟩ = some (.int .i64 (a : Int))) (c2 : w.cell? ⟨b + 1, 0, none⟩ = some (.int .i64 (s : Int))) (c3 : w.cell? ⟨b + 2, 0, none⟩ = some (.int .i64 (f : Int))) (n : Nat) :
    SeqStopsK Fence.wide n Try.prog 78 #[.pointer (some ⟨b, 0, none⟩), .pointer (some ⟨b + 1, 0, none⟩), .pointer (some ⟨b + 2, 0, none⟩)] (countsEnc a s f) (KeepBut n0 B) (fun xs => xs.map (·.1) = List.range (a + 1)) (fun _ => True) (a + 1) w := fun l J Jx W hW hJ hJx hY h0 => by
  have d1 : W.cell? ⟨b, 0, none⟩ = some (.int .i64 (a : Int)) := (hW.cell (by show b < _; omega)).trans c1
  have d2 : W.cell? ⟨b + 1, 0, none⟩ = some (.int .i64 (s : Int)) := (hW.cell (by show b + 1 < _; omega)).trans c2
  have d3 : W.cell? ⟨b + 2, 0, none⟩ = some (.int .i64 (f : Int)) := (hW.cell (by show b + 2 < _; omega)).trans c3
  refine callsIn_of_wp Try.func78 rfl trivial ?_ rfl
  simp only [Try.ntmps78, List.size_toArray, List.length_cons, List.length_nil, Nat.reduceAdd, Nat.reduceSub, Array.replicate_succ, Array.replicate_zero, List.push_toArray, List.append_toArray, List.nil_append, List.cons_append]
  gi_wp2
  gi_loopw [8] (fun i wr => ∃ (k : Nat) (pre : List (UpTo a)), k ≤ a + 1 ∧ i = .int .i64 k ∧ Hid (pre.map (·.1) = List.range k ∧ J pre wr ∧ KeepBut n0 B W wr ∧ W.heap.size ≤ wr.heap.size)) (fun i _ => a + 1 - (intOf i).toNat)
  case atStart => exact ⟨0, [], Nat.zero_le _, rfl, Lib.hid ⟨rfl, h0, KeepBut.refl _ _ _, Nat.le_refl _⟩⟩
  case round =>
    obtain ⟨k, pre, hk, rfl, HI⟩ := hrel
    by_cases hlt : k < a + 1
    · have e1 : wr.cell? ⟨b, 0, none⟩ = some (.int .i64 (a : Int)) := (HI.out.2.2.1.cell (by show b < n0; omega) (by show b ≠ B; omega)).trans d1
      have e2 : wr.cell? ⟨b + 1, 0, none⟩ = some (.int .i64 (s : Int)) := (HI.out.2.2.1.cell (by show b + 1 < n0; omega) (by show b + 1 ≠ B; omega)).trans d2
      have e3 : wr.cell? ⟨b + 2, 0, none⟩ = some (.int .i64 (f : Int)) := (HI.out.2.2.1.cell (by show b + 2 < n0; omega) (by show b + 2 ≠ B; omega)).trans d3
      have HU := Lib.hid (upTo_int (a : Int) (k : Int) (s : Int) (f : Int) (by omega) (by omega) (by omega) (by omega) (by omega) (by omega) wr)
      have hlti : (k : Int) < (a : Int) + 1 := by omega
      have hpl : pre.length = k := by have := congrArg List.length HI.out.1; simpa using this
      clear d1 d2 d3
      gi_wp2
      refine ⟨trivial, fun h => (by simp [Fence.wide] at h), ?_⟩
      refine (callsIn_wide.2 HU.out).mono ?_
      rintro e w2 ⟨rfl, hb2⟩
      obtain ⟨fn, tmps, assign, body, hy, hR⟩ := hY pre ⟨k, by omega⟩ w2 (hJ pre wr w2 none HI.out.2.1 (grown_of_below hb2) (fun r e => by cases e)) (by omega)
      dsimp only [countsEnc] at hy
      have HB2 := Lib.hid (KeepBut.of_below (B := B) hb2 (Nat.le_trans hn0 (Nat.le_trans hW.size HI.out.2.2.2)))
      have HB3 := Lib.hid hb2.size
      clear hb2
      gi_wp2
      refine ⟨fun h => (by simp [Fence.wide] at h), hR.mono ?_⟩
      rintro e W3 (⟨rfl, hJ3, hk3⟩ | ⟨rfl, hJx3⟩)
      · have H3 := Lib.hid (And.intro hJ3 hk3)
        clear hJ3 hk3
        gi_wp2
        go_roundw
        case rel => exact ⟨k + 1, pre ++ [⟨k, by omega⟩], by omega, by go_num, Lib.hid ⟨by rw [List.map_append, HI.out.1, List.range_succ]; rfl, H3.out.1, (HI.out.2.2.1.trans HB2.out).trans H3.out.2, Nat.le_trans HI.out.2.2.2 (Nat.le_trans HB3.out H3.out.2.1)⟩⟩
        case measure => simp [intOf]; omega
      · gi_wp2
        refine bodyPost_ret (results_none rfl _ _ _) rfl ?_
        exact ⟨⟨_, rfl⟩, .inr ⟨_, trivial, hJx3⟩⟩
    · obtain rfl : k = a + 1 := by omega
      gi_wp2
      go_end0
      exact ⟨⟨_, rfl⟩, .inl ⟨pre, HI.out.1, HI.out.2.1⟩⟩
end Go.Proofs.Ytmgdidhhgdpobaa.Hand

/- Between comes to a fold over all numbers of wrong logs. -/
namespace Go.Proofs.Ytmgdidhhgdpobaa.Hand
set_option linter.unusedVariables false
set_option linter.unusedSimpArgs false
open Go.RowKit Go.Shelf Go.Maps Go.Proofs.YtmgdidhhgdpobaaW.PrintWords Go.Proofs.YtmgdidhhgdpobaaW.PrintLast Go.Proofs.YtmgdidhhgdpobaaW.PrintMore Go.Proofs.Ytmgdidhhgdpobaa.PrA
attribute [local go_sem] Oper.semAt_some

def outOf (m n j num den : Int) : Bool := rareB n m num den || rareB (m - n + j) m num den
def betStep (a s f num den : Int) (lh : Int × Int) (k : Nat) : Int × Int :=
  if outOf (binom a.toNat s.toNat) (uptoN a k s f) (justN a k s f) num den then lh else (if lh.1 < 0 then (k : Int) else lh.1, (k : Int))
def betN (a s f num den : Int) : Int × Int := (List.range (a.toNat + 1)).foldl (betStep a s f num den) (-1, 0)
def check_Between.f (a0 a1 a2 a3_0 a3_1 : Int) : Option (Int × Int × Int) :=
  some (if caseB a0 0 a1 a2 then (if riskOk a3_0 a3_1 then ((betN a0 a1 a2 a3_0 a3_1).1, (betN a0 a1 a2 a3_0 a3_1).2, 0) else (0, 0, 2)) else (0, 0, 3))

theorem isRisk_int (n d : Int) (w : World) : Calls Try.prog 66 #[.agg #[.int .i64 n, .int .i64 d]] w fun e w' => e = .returned (.bool (riskOk n d)) ∧ Below w.heap.size w w' :=
  check_isRisk.calls n d _ w (isRisk_is n d)

theorem bet_keep {W w' w'' : World} {p q : Addr} {x y : Value} (hb : Below w'.heap.size w' w'') (h : w'.cell? p = some x ∧ w'.cell? q = some y ∧ Below W.heap.size W w') : w''.cell? p = some x ∧ w''.cell? q = some y ∧ Below W.heap.size W w'' :=
  ⟨by rw [hb.cell (cell_size h.1)]; exact h.1, by rw [hb.cell (cell_size h.2.1)]; exact h.2.1, h.2.2.trans (hb.mono h.2.2.size)⟩
theorem bet_alloc {W w' : World} {p q : Addr} {x y : Value} {o : Obj} (h : w'.cell? p = some x ∧ w'.cell? q = some y ∧ Below W.heap.size W w') : (w'.alloc o).cell? p = some x ∧ (w'.alloc o).cell? q = some y ∧ Below W.heap.size W (w'.alloc o) :=
  bet_keep ((Below.refl _ _).alloc (Nat.le_refl _) _) h
theorem bet_set {W w' : World} {p q : Addr} {x y z : Value} {B : Nat} (hB : W.heap.size ≤ B ∧ p.block ≠ B ∧ q.block ≠ B) (h : w'.cell? p = some x ∧ w'.cell? q = some y ∧ Below W.heap.size W w') : (w'.setCell ⟨B, 0, none⟩ z).cell? p = some x ∧ (w'.setCell ⟨B, 0, none⟩ z).cell? q = some y ∧ Below W.heap.size W (w'.setCell ⟨B, 0, none⟩ z) :=
  ⟨by rw [World.cell?_setCell_other w' ⟨B, 0, none⟩ p z (fun e => hB.2.1 (by rw [← e]))]; exact h.1, by rw [World.cell?_setCell_other w' ⟨B, 0, none⟩ q z (fun e => hB.2.2 (by rw [← e]))]; exact h.2.1, h.2.2.setCell hB.1 _⟩

theorem choices_past (n : Nat) (hn : n ≤ 50) (X : World) : Calls Try.prog 59 #[.int .i64 n] (X.alloc (.cells #[.int .i64 0] 2)).drew fun e w' => e = .returned (.agg (cellsOf (rowF n))) ∧ Below (X.alloc (.cells #[.int .i64 0] 2)).drew.heap.size (X.alloc (.cells #[.int .i64 0] 2)).drew w' ∧ w'.cell? ⟨X.heap.size, 0, none⟩ = some (.int .i64 0) ∧ w'.frozen? ⟨X.heap.size, 0, none⟩ = false := by
  refine (choices_any n hn _).mono ?_
  rintro e w' ⟨rfl, hb⟩
  exact ⟨rfl, hb, by rw [hb.cell (by simp)]; simp, by rw [hb.frozen (by simp)]; simp⟩

theorem keepBut_setCell {n B : Nat} {X Y : World} (h : KeepBut n B X Y) (o : Nat) (v : Value) : KeepBut n B X (Y.setCell ⟨B, o, none⟩ v) :=
  ⟨by simpa [World.setCell] using h.1, fun k h1 h2 => by
    rw [← h.2 k h1 h2]
    simp only [World.setCell, Array.getElem?_modify]
    rw [if_neg (fun e => h2 e.symm)]⟩
theorem keepsOthers_of_below {W W' : World} (h : Below W.heap.size W W') : KeepsOthers W W' := ⟨h.size, fun k o hk _ => by rw [h.block k (Array.getElem?_eq_some_iff.1 hk).1]; exact hk⟩
theorem ownFrom_keepBut {β : Type} {n B B' : Nat} {w₀ : World} (hn : n ≤ w₀.heap.size) (hB : n ≤ B) : OwnFrom B (fun (_ : β) W => KeepBut n B' w₀ W) :=
  fun _ W _ _ hs hg hr => hs.trans ⟨hg.size, fun k h1 _ => hg.block k (Nat.lt_of_lt_of_le h1 (Nat.le_trans hn hs.1)) (fun e => by have := (hr k e.symm).1; omega)⟩
/-- what is known when some numbers have come -/
def betTo (a s f : Nat) (num den : Int) (pre : List (UpTo a)) : Int × Int := (pre.map (·.1)).foldl (betStep (a : Int) (s : Int) (f : Int) num den) (-1, 0)

set_option maxRecDepth 100000 in
set_option maxHeartbeats 8000000 in
theorem between_good (a s f : Nat) (num den : Int) (w : World) (ha1 : 1 ≤ a) (ha : a ≤ 50) (hs : s ≤ a) (hf : f ≤ s) (hr : riskOk num den = true) :
    Calls Try.prog 31 #[.int .i64 (a : Int), .int .i64 (s : Int), .int .i64 (f : Int), .agg #[.int .i64 num, .int .i64 den]] w
      fun e w' => e = .returned (.tuple #[.agg #[.int .i64 (betN a s f num den).1, .int .i64 (betN a s f num den).2], .int .i64 0]) ∧ Below w.heap.size w w' := by
  have hu27 := Try.underlying27
  obtain ⟨W, hW⟩ : ∃ W, W = ((((w.alloc (.cells #[.int .i64 (a : Int)] 3)).alloc (.cells #[.int .i64 (s : Int)] 3)).alloc (.cells #[.int .i64 (f : Int)] 3)).alloc (.cells #[.int .i64 num, .int .i64 den] 27)).alloc (.cells #[.int .i64 0, .int .i64 0] 39) := ⟨_, rfl⟩
  have hc := isCase_any (a : Int) 0 (s : Int) (f : Int) W
  have hcb : caseB (a : Int) 0 (s : Int) (f : Int) = true := by simp [caseB, outB]; omega
  rw [hcb] at hc
  have HC := Lib.hid hc
  have HK := Lib.hid (fun w' => by have := isRisk_int num den w'; rw [hr] at this; exact this : ∀ w', Calls Try.prog 66 #[.agg #[.int .i64 num, .int .i64 den]] w' fun e w'' => e = .returned (.bool true) ∧ Below w'.heap.size w' w'')
  have hbl : Below w.heap.size w W := by rw [hW]; exact (((((Below.refl w.heap.size w).alloc (Nat.le_refl _) _).alloc (by simp) _).alloc (by simp; omega) _).alloc (by simp; omega) _).alloc (by simp; omega) _
  have hws : W.heap.size = w.heap.size + 5 := by rw [hW]; simp
  have d0 : W.cell? ⟨w.heap.size, 0, none⟩ = some (.int .i64 (a : Int)) := by rw [hW]; simp [go_sem]
  have d1 : W.cell? ⟨w.heap.size + 1, 0, none⟩ = some (.int .i64 (s : Int)) := by rw [hW]; simp [go_sem]
  have d2 : W.cell? ⟨w.heap.size + 2, 0, none⟩ = some (.int .i64 (f : Int)) := by rw [hW]; simp [go_sem]
  have d3 : W.cell? ⟨w.heap.size + 3, 0, none⟩ = some (.int .i64 num) := by rw [hW]; simp [go_sem]
  have d4 : W.cell? ⟨w.heap.size + 3, 1, none⟩ = some (.int .i64 den) := by rw [hW]; simp [go_sem]
  have d5 : W.cell? ⟨w.heap.size + 4, 0, none⟩ = some (.int .i64 0) := by rw [hW]; simp [go_sem]
  have d6 : W.cell? ⟨w.heap.size + 4, 1, none⟩ = some (.int .i64 0) := by rw [hW]; simp [go_sem]
  have d7 : W.frozen? ⟨w.heap.size + 4, 0, none⟩ = false := by rw [hW]; simp [go_sem]
  have d8 : W.frozen? ⟨w.heap.size + 4, 1, none⟩ = false := by rw [hW]; simp [go_sem]
  have HD := Lib.hid (And.intro d0 (And.intro d1 (And.intro d2 (And.intro d3 (And.intro d4 (And.intro d5 (And.intro d6 (And.intro d7 d8))))))))
  have HBL := Lib.hid (And.intro hbl hws)
  have HR := Lib.hid hr
  clear hc hcb hr hbl hws d5 d6 d7 d8
  refine (callsIn_wide (n := 5)).1 (callsIn_of_wp_marks Try.func31 rfl trivial (wpIn_wide.2 ?_) rfl)
  simp only [Try.ntmps31, List.size_toArray, List.length_cons, List.length_nil, Nat.reduceAdd, Nat.reduceSub, Array.replicate_succ, Array.replicate_zero, List.push_toArray, List.append_toArray, List.nil_append, List.cons_append]
  go_wp2_with fail
  rw [← hW]
  clear hW
  refine HC.out.mono ?_
  rintro e w1 ⟨rfl, hw1⟩
  have e3 : w1.cell? ⟨w.heap.size + 3, 0, none⟩ = some (.int .i64 num) := by rw [hw1.cell (cell_size d3)]; exact d3
  have e4 : w1.cell? ⟨w.heap.size + 3, 1, none⟩ = some (.int .i64 den) := by rw [hw1.cell (cell_size d4)]; exact d4
  have HW1 := Lib.hid hw1
  clear hw1 d0 d1 d2 d3 d4
  go_wp2_with fail
  refine (HK.out _).mono ?_
  rintro e w2 ⟨rfl, hw2⟩
  have HW2 := Lib.hid (HW1.out.trans (hw2.mono HW1.out.size))
  have c0 : w2.cell? ⟨w.heap.size, 0, none⟩ = some (.int .i64 (a : Int)) := by rw [HW2.out.cell (cell_size HD.out.1)]; exact HD.out.1
  have c1 : w2.cell? ⟨w.heap.size + 1, 0, none⟩ = some (.int .i64 (s : Int)) := by rw [HW2.out.cell (cell_size HD.out.2.1)]; exact HD.out.2.1
  obtain ⟨m, hm⟩ : ∃ m, m = binom a s := ⟨_, rfl⟩
  have hix : ∀ w', (Instr.index 82 (.agg (cellsOf (rowF a))) (.int .i64 (s : Int))).run Try.prog w' = .ok (.int .i64 m) w' := fun w' => by
    rw [hm]; exact run_index_agg w' row_under row_key row_cells (by omega) (cellsOf_get _ _ (by omega))
  have HKC := Lib.hid (fun W => choices_any a ha W)
  have HM := Lib.hid hm
  clear hw2 e3 e4 hm
  go_upto_region 5 with fail
  go_cut [10] from 27 to 30 (fun s10 wx => ∃ B, s10 = .pointer (some ⟨B, 0, none⟩) ∧ Hid (wx.cell? ⟨B, 0, none⟩ = some (.int .i64 m) ∧ W.heap.size ≤ B ∧ Below W.heap.size W wx))
  case first =>
    have h0 : w2.drew.cell? ⟨w.heap.size, 0, none⟩ = some (.int .i64 (a : Int)) ∧ w2.drew.cell? ⟨w.heap.size + 1, 0, none⟩ = some (.int .i64 (s : Int)) ∧ Below W.heap.size W w2.drew := ⟨c0, c1, HW2.out.drew⟩
    have HBX := Lib.hid (⟨HW2.out.size, by have := HBL.out.2; have := HW2.out.size; omega, by have := HBL.out.2; have := HW2.out.size; omega⟩ : W.heap.size ≤ w2.heap.size ∧ w.heap.size ≠ w2.heap.size ∧ w.heap.size + 1 ≠ w2.heap.size)
    go_region_held3 (fun w' => w'.cell? ⟨w.heap.size, 0, none⟩ = some (.int .i64 (a : Int)) ∧ w'.cell? ⟨w.heap.size + 1, 0, none⟩ = some (.int .i64 (s : Int)) ∧ Below W.heap.size W w')
      (first | assumption | exact bet_keep (by assumption) (by assumption) | exact bet_alloc (by assumption) | exact bet_alloc (bet_keep (by assumption) (by assumption)) | exact bet_set HBX.out (by assumption))
      (first | (go_at_call 59; (with_reducible refine (choices_past a ha _).mono ?_); rintro e w' ⟨rfl, hb', hq1, hq2⟩) | (go_at_call 59; refine (HKC.out _).mono ?_; rintro e w' ⟨rfl, hb'⟩))
    all_goals go_wp2_with fail
    all_goals go_meet
    all_goals rename_i hh
    · exact ⟨_, rfl, Lib.hid ⟨by simp, Nat.le_trans HW2.out.size hb'.size, hh.2.2⟩⟩
    · exact ⟨_, rfl, Lib.hid ⟨by simp, Nat.le_trans HW2.out.size hb'.size, hh.2.2⟩⟩
    · exact ⟨_, rfl, Lib.hid ⟨World.cell?_setCell_same' _ _ _ (by rw [hq1]; rfl), HW2.out.size, hh.2.2⟩⟩
  case rest =>
    obtain ⟨B, rfl, HCUT⟩ := hcut
    have g0 : wc.cell? ⟨w.heap.size, 0, none⟩ = some (.int .i64 (a : Int)) := by rw [HCUT.out.2.2.cell (cell_size HD.out.1)]; exact HD.out.1
    have g1 : wc.cell? ⟨w.heap.size + 1, 0, none⟩ = some (.int .i64 (s : Int)) := by rw [HCUT.out.2.2.cell (cell_size HD.out.2.1)]; exact HD.out.2.1
    have g2 : wc.cell? ⟨w.heap.size + 2, 0, none⟩ = some (.int .i64 (f : Int)) := by rw [HCUT.out.2.2.cell (cell_size HD.out.2.2.1)]; exact HD.out.2.2.1
    have g3 : wc.cell? ⟨w.heap.size + 3, 0, none⟩ = some (.int .i64 num) := by rw [HCUT.out.2.2.cell (cell_size HD.out.2.2.2.1)]; exact HD.out.2.2.2.1
    have g4 : wc.cell? ⟨w.heap.size + 3, 1, none⟩ = some (.int .i64 den) := by rw [HCUT.out.2.2.cell (cell_size HD.out.2.2.2.2.1)]; exact HD.out.2.2.2.2.1
    clear c0 c1 hix
    go_upto_region 7 with fail
    obtain ⟨W3, hW3⟩ : ∃ W3, W3 = wc.alloc (.cells #[.int .i64 (-1), .int .i64 0] 39) := ⟨_, rfl⟩
    rw [← hW3]
    have hb3 : Below wc.heap.size wc W3 := by rw [hW3]; exact (Below.refl _ _).alloc (Nat.le_refl _) _
    have k0 : W3.cell? ⟨w.heap.size, 0, none⟩ = some (.int .i64 (a : Int)) := by rw [hb3.cell (cell_size g0)]; exact g0
    have k1 : W3.cell? ⟨w.heap.size + 1, 0, none⟩ = some (.int .i64 (s : Int)) := by rw [hb3.cell (cell_size g1)]; exact g1
    have k2 : W3.cell? ⟨w.heap.size + 2, 0, none⟩ = some (.int .i64 (f : Int)) := by rw [hb3.cell (cell_size g2)]; exact g2
    have k3 : W3.cell? ⟨w.heap.size + 3, 0, none⟩ = some (.int .i64 num) := by rw [hb3.cell (cell_size g3)]; exact g3
    have k4 : W3.cell? ⟨w.heap.size + 3, 1, none⟩ = some (.int .i64 den) := by rw [hb3.cell (cell_size g4)]; exact g4
    have k5 : W3.cell? ⟨B, 0, none⟩ = some (.int .i64 m) := by rw [hb3.cell (cell_size HCUT.out.1)]; exact HCUT.out.1
    have k6 : W3.cell? ⟨wc.heap.size, 0, none⟩ = some (.int .i64 (-1)) := by rw [hW3]; simp
    have k7 : W3.cell? ⟨wc.heap.size, 1, none⟩ = some (.int .i64 0) := by rw [hW3]; simp
    have k8 : W3.frozen? ⟨wc.heap.size, 0, none⟩ = false := by rw [hW3]; simp
    have k9 : W3.frozen? ⟨wc.heap.size, 1, none⟩ = false := by rw [hW3]; simp
    have hs3 : W3.heap.size = wc.heap.size + 1 := by rw [hW3]; simp
    have HK3 := Lib.hid (And.intro k3 (And.intro k4 (And.intro k5 (And.intro k6 (And.intro k7 (And.intro k8 k9))))))
    have HS3 := Lib.hid (And.intro hs3 (HCUT.out.2.2.trans (hb3.mono HCUT.out.2.2.size)))
    clear hW3 hb3 hs3 k3 k4 k5 k6 k7 k8 k9 g0 g1 g2 g3 g4
    go_wp2_with (go_at_call 67; refine (counts_any _ _ _ _).mono ?_; rintro e w' ⟨rfl, rfl⟩)
    obtain ⟨W6, hW6⟩ : ∃ W6, W6 = ((W3.alloc (.cells #[.int .i64 (a : Int)] 3)).alloc (.cells #[.int .i64 (s : Int)] 3)).alloc (.cells #[.int .i64 (f : Int)] 3) := ⟨_, rfl⟩
    rw [← hW6]
    have hb6 : Below W3.heap.size W3 W6 := by rw [hW6]; exact (((Below.refl W3.heap.size W3).alloc (Nat.le_refl _) _).alloc (by simp) _).alloc (by simp; omega) _
    have hs6 : W6.heap.size = W3.heap.size + 3 := by rw [hW6]; simp
    have b1 : W6.cell? ⟨W3.heap.size, 0, none⟩ = some (.int .i64 (a : Int)) := by rw [hW6]; simp [go_sem]
    have b2 : W6.cell? ⟨W3.heap.size + 1, 0, none⟩ = some (.int .i64 (s : Int)) := by rw [hW6]; simp [go_sem]
    have b3 : W6.cell? ⟨W3.heap.size + 2, 0, none⟩ = some (.int .i64 (f : Int)) := by rw [hW6]; simp [go_sem]
    have l0 : W6.cell? ⟨w.heap.size, 0, none⟩ = some (.int .i64 (a : Int)) := by rw [hb6.cell (cell_size k0)]; exact k0
    have l1 : W6.cell? ⟨w.heap.size + 1, 0, none⟩ = some (.int .i64 (s : Int)) := by rw [hb6.cell (cell_size k1)]; exact k1
    have l2 : W6.cell? ⟨w.heap.size + 2, 0, none⟩ = some (.int .i64 (f : Int)) := by rw [hb6.cell (cell_size k2)]; exact k2
    have l3 : W6.cell? ⟨w.heap.size + 3, 0, none⟩ = some (.int .i64 num) := by rw [hb6.cell (cell_size HK3.out.1)]; exact HK3.out.1
    have l4 : W6.cell? ⟨w.heap.size + 3, 1, none⟩ = some (.int .i64 den) := by rw [hb6.cell (cell_size HK3.out.2.1)]; exact HK3.out.2.1
    have l5 : W6.cell? ⟨B, 0, none⟩ = some (.int .i64 m) := by rw [hb6.cell (cell_size HK3.out.2.2.1)]; exact HK3.out.2.2.1
    have l6 : W6.cell? ⟨wc.heap.size, 0, none⟩ = some (.int .i64 (-1)) := by rw [hb6.cell (cell_size HK3.out.2.2.2.1)]; exact HK3.out.2.2.2.1
    have l7 : W6.cell? ⟨wc.heap.size, 1, none⟩ = some (.int .i64 0) := by rw [hb6.cell (cell_size HK3.out.2.2.2.2.1)]; exact HK3.out.2.2.2.2.1
    have l8 : W6.frozen? ⟨wc.heap.size, 0, none⟩ = false := by rw [hb6.frozen (cell_size HK3.out.2.2.2.1)]; exact HK3.out.2.2.2.2.2.1
    have l9 : W6.frozen? ⟨wc.heap.size, 1, none⟩ = false := by rw [hb6.frozen (cell_size HK3.out.2.2.2.2.1)]; exact HK3.out.2.2.2.2.2.2
    have hBB : B < wc.heap.size := cell_size HCUT.out.1
    have hww : Below w.heap.size w W6 := HBL.out.1.trans ((HS3.out.2.mono HBL.out.1.size).trans (hb6.mono (Nat.le_trans HBL.out.1.size HS3.out.2.size)))
    have hsz : w.heap.size + 5 ≤ wc.heap.size ∧ W6.heap.size = wc.heap.size + 4 := ⟨by have := HCUT.out.2.2.size; have := HBL.out.2; omega, by have := HS3.out.1; omega⟩
    have HST := Lib.hid (counts_stops a s f W3.heap.size W6.heap.size wc.heap.size ha hs hf W6 (Nat.le_refl _) (by omega) (by have := HS3.out.1; omega) b1 b2 b3 4)
    have HW6 := Lib.hid (HS3.out.2.trans (hb6.mono HS3.out.2.size))
    clear hW6 hb6 b1 b2 b3 k0 k1 k2
    refine (wpIn_wide (n := 5)).1 ?_
    refine wpIn_rangeFunc_ownF (F := Fence.wide) rfl (by decide) (gf := 78) (lb := #[.pointer (some ⟨W3.heap.size, 0, none⟩), .pointer (some ⟨W3.heap.size + 1, 0, none⟩), .pointer (some ⟨W3.heap.size + 2, 0, none⟩)]) rfl trivial (enters_of Try.func78 (by kernel_rfl) rfl)
      HST.out KeepBut.trans (KeepBut.putObj (Nat.le_refl _)) (Below.refl _ _) (fun _ => rfl)
      (fun pre W => (W.cell? ⟨wc.heap.size, 0, none⟩ = some (.int .i64 (betTo a s f num den pre).1) ∧ W.cell? ⟨wc.heap.size, 1, none⟩ = some (.int .i64 (betTo a s f num den pre).2) ∧ W.frozen? ⟨wc.heap.size, 0, none⟩ = false ∧ W.frozen? ⟨wc.heap.size, 1, none⟩ = false) ∧ KeepBut W6.heap.size wc.heap.size W6 W ∧ Below w.heap.size w W)
      (fun _ _ _ => False)
      (OwnFrom.and (Own.from (fun s A B row hs hg hr => ⟨Go.cell_kept hs.1 hg hr, Go.cell_kept hs.2.1 hg hr, (Go.frozen_kept hs.1 hg hr).trans hs.2.2.1, (Go.frozen_kept hs.2.1 hg hr).trans hs.2.2.2⟩) _) (OwnFrom.and (ownFrom_keepBut (Nat.le_refl _) (Nat.le_refl _)) (ownFrom_below (Nat.le_refl _) (by omega))))
      (fun _ _ _ _ _ hs _ _ => hs)
      ⟨⟨l6, l7, l8, l9⟩, KeepBut.refl _ _ _, hww⟩
      (fun x => { tmps := #[.int .i64 (a : Int), .int .i64 (s : Int), .int .i64 (f : Int), .agg #[.int .i64 num, .int .i64 den], .pointer (some ⟨w.heap.size, 0, none⟩), .pointer (some ⟨w.heap.size + 1, 0, none⟩), .pointer (some ⟨w.heap.size + 1 + 1, 0, none⟩), .pointer (some ⟨w.heap.size + 1 + 1 + 1, 0, none⟩), .pointer (some ⟨w.heap.size + 1 + 1 + 1 + 1, 0, none⟩), .int .i64 0, .pointer (some ⟨B, 0, none⟩), .pointer (some ⟨wc.heap.size, 0, none⟩), .int .i64 (x.1 : Int), .int .i64 (uptoN (a : Int) (x.1 : Int) (s : Int) (f : Int)), undef, .bool false, .int .i64 (a : Int), .int .i64 (s : Int), .int .i64 (f : Int), .bool true, .bool false, undef, .bool false, .agg #[.int .i64 num, .int .i64 den], .bool true, .bool false, undef, u27, u28, u29, u30, .agg #[.int .i64 (-1), .int .i64 0], .int .i64 (a : Int), .int .i64 (s : Int), .int .i64 (f : Int), .func (.func 78) #[] #[.pointer (some ⟨W3.heap.size, 0, none⟩), .pointer (some ⟨W3.heap.size + 1, 0, none⟩), .pointer (some ⟨W3.heap.size + 2, 0, none⟩)], .int .i64 (x.1 : Int), .int .i64 (uptoN (a : Int) (x.1 : Int) (s : Int) (f : Int)), undef, undef, undef, undef, undef, undef, undef, undef, undef, undef, undef, undef, undef, undef, undef, undef, undef, undef, undef, undef, undef, undef, undef, undef, undef, undef, undef, undef, undef], defers := [] }) ?assign ?body ?done ?stop
    case assign =>
      intro l x W K hK
      dsimp only [countsEnc]
      gi_wp2
      exact hK
    case body =>
      rintro l pre x W ⟨⟨hc1, hc2, hf1, hf2⟩, hkb, hbw⟩ hlen
      have m0 : W.cell? ⟨w.heap.size, 0, none⟩ = some (.int .i64 (a : Int)) := by rw [hkb.cell (by show w.heap.size < _; omega) (by show w.heap.size ≠ _; omega)]; exact l0
      have m1 : W.cell? ⟨w.heap.size + 1, 0, none⟩ = some (.int .i64 (s : Int)) := by rw [hkb.cell (by show w.heap.size + 1 < _; omega) (by show w.heap.size + 1 ≠ _; omega)]; exact l1
      have m2 : W.cell? ⟨w.heap.size + 2, 0, none⟩ = some (.int .i64 (f : Int)) := by rw [hkb.cell (by show w.heap.size + 2 < _; omega) (by show w.heap.size + 2 ≠ _; omega)]; exact l2
      have m3 : W.cell? ⟨w.heap.size + 3, 0, none⟩ = some (.int .i64 num) := by rw [hkb.cell (by show w.heap.size + 3 < _; omega) (by show w.heap.size + 3 ≠ _; omega)]; exact l3
      have m4 : W.cell? ⟨w.heap.size + 3, 1, none⟩ = some (.int .i64 den) := by rw [hkb.cell (by show w.heap.size + 3 < _; omega) (by show w.heap.size + 3 ≠ _; omega)]; exact l4
      have m5 : W.cell? ⟨B, 0, none⟩ = some (.int .i64 m) := by rw [hkb.cell (by show B < _; omega) (by show B ≠ _; omega)]; exact l5
      have HM5 := Lib.hid (And.intro m3 (And.intro m4 (And.intro m5 (And.intro hc1 (And.intro hc2 (And.intro hf1 hf2))))))
      have HKB := Lib.hid (And.intro hkb hbw)
      clear m3 m4 m5 hc1 hc2 hf1 hf2 hkb hbw l0 l1 l2 l3 l4 l5 l6 l7 l8 l9
      gi_wp2
      have hS : W.drew.cell? ⟨w.heap.size, 0, none⟩ = some (.int .i64 (a : Int)) ∧ W.drew.cell? ⟨w.heap.size + 1, 0, none⟩ = some (.int .i64 (s : Int)) ∧ W.drew.cell? ⟨w.heap.size + 2, 0, none⟩ = some (.int .i64 (f : Int)) ∧ Below W.heap.size W W.drew := ⟨m0, m1, m2, (Below.refl _ _).drew⟩
      refine wpIn_held_list (k := 8) rfl l (fun w' => w'.cell? ⟨w.heap.size, 0, none⟩ = some (.int .i64 (a : Int)) ∧ w'.cell? ⟨w.heap.size + 1, 0, none⟩ = some (.int .i64 (s : Int)) ∧ w'.cell? ⟨w.heap.size + 2, 0, none⟩ = some (.int .i64 (f : Int)) ∧ Below W.heap.size W w') (by kernel_rfl) (by kernel_rfl) (fun ⟨_, _, h⟩ => h) ?_
      refine take_list (i := 0) (v := .int .i64 (a : Int)) rfl (by kernel_rfl) (by kernel_rfl) (by kernel_rfl) (fun _ _ _ h => h) (by rfl) (by intro w' hw'; obtain ⟨x0, x1, x2, -⟩ := hw'; go_simp) hS ?_
      simp only [Act.put, List.setIfInBounds_toArray, List.set_cons_zero, List.set_cons_succ]
      refine take_list (i := 1) (v := .int .i64 (x.1 : Int)) rfl (by kernel_rfl) (by kernel_rfl) (by kernel_rfl) (fun _ _ _ h => h) (by rfl) (by intro w' hw'; obtain ⟨x0, x1, x2, -⟩ := hw'; go_simp) hS ?_
      simp only [Act.put, List.setIfInBounds_toArray, List.set_cons_zero, List.set_cons_succ]
      refine take_list (i := 2) (v := .int .i64 (s : Int)) rfl (by kernel_rfl) (by kernel_rfl) (by kernel_rfl) (fun _ _ _ h => h) (by rfl) (by intro w' hw'; obtain ⟨x0, x1, x2, -⟩ := hw'; go_simp) hS ?_
      simp only [Act.put, List.setIfInBounds_toArray, List.set_cons_zero, List.set_cons_succ]
      refine take_list (i := 4) (v := .int .i64 (f : Int)) rfl (by kernel_rfl) (by kernel_rfl) (by kernel_rfl) (fun _ _ _ h => h) (by rfl) (by intro w' hw'; obtain ⟨x0, x1, x2, -⟩ := hw'; go_simp) hS ?_
      simp only [Act.put, List.setIfInBounds_toArray, List.set_cons_zero, List.set_cons_succ]
      refine take_list (i := 5) (v := .agg #[.int .i64 (f : Int)]) rfl (by kernel_rfl) (by kernel_rfl) (by kernel_rfl) (fun _ _ _ h => h) (by rfl) (by intro w' hw'; obtain ⟨x0, x1, x2, -⟩ := hw'; go_simp) hS ?_
      simp only [Act.put, List.setIfInBounds_toArray, List.set_cons_zero, List.set_cons_succ]
      refine step_list (i := 3) (by kernel_rfl) rfl (by rfl) (fun K hK => ?_)
      go_simp
      refine (samples_int (a : Int) (x.1 : Int) (s : Int) (by omega) (by omega) (by have := x.2; omega) (by omega) (by omega) W.drew).mono ?_
      rintro e w7 ⟨⟨bm, nm, rfl, D, hown, htell⟩, hb2⟩
      have hb7 : Below W.heap.size W w7 := (Below.refl W.heap.size W).drew.trans hb2
      have hS7 : w7.cell? ⟨w.heap.size, 0, none⟩ = some (.int .i64 (a : Int)) ∧ w7.cell? ⟨w.heap.size + 1, 0, none⟩ = some (.int .i64 (s : Int)) ∧ w7.cell? ⟨w.heap.size + 2, 0, none⟩ = some (.int .i64 (f : Int)) ∧ Below W.heap.size W w7 :=
        ⟨by rw [hb7.cell (cell_size m0)]; exact m0, by rw [hb7.cell (cell_size m1)]; exact m1, by rw [hb7.cell (cell_size m2)]; exact m2, hb7⟩
      refine hK _ _ hS7 ?_
      clear hK K
      obtain ⟨c, hrun, hat, hwc⟩ := hown.lookup_int (q := .i64) kind_law Try.underlying85 Try.underlying2 (zero_int64 w7) (kind_key (x := (f : Int)) (WalkArith.wf_i64 (by omega)))
      have hcj : c = justN (a : Int) (x.1 : Int) (s : Int) (f : Int) := by
        have h1 := htell (f : Int) (WalkArith.wf_i64 (by omega))
        rw [hat, kinds_just (by omega) (by have := x.2; omega) (by omega) (by omega)] at h1
        simpa using h1
      have HCJ := Lib.hid hcj
      have hul := uptoN_le (a := (a : Int)) (w := (x.1 : Int)) (f := (f : Int)) (s := (s : Int)) (by omega) (by have := x.2; omega) (by omega) (by omega)
      have hun := uptoN_nat (a : Int) (x.1 : Int) (s : Int) (f : Int)
      have hjl : justN (a : Int) (x.1 : Int) (s : Int) (f : Int) ≤ (binom a s : Int) := by
        have := term_le x.1 (a - x.1) s f hf
        rw [show x.1 + (a - x.1) = a by have := x.2; omega] at this
        unfold justN
        simp only [Int.toNat_natCast]
        rw [show ((a : Int) - (x.1 : Int)).toNat = a - x.1 by omega, show ((s : Int) - (f : Int)).toNat = s - f by omega]
        exact_mod_cast this
      have hj0 : 0 ≤ justN (a : Int) (x.1 : Int) (s : Int) (f : Int) := by unfold justN; omega
      have hbb := binom_le50 a s ha
      simp only [Int.toNat_natCast] at hul
      rw [← HM.out] at hul hjl hbb
      have hu1 : uptoN (a : Int) (x.1 : Int) (s : Int) (f : Int) ≤ (m : Int) := by omega
      have hu0 : 0 ≤ uptoN (a : Int) (x.1 : Int) (s : Int) (f : Int) := by omega
      rw [← hcj] at hjl hj0
      clear hown htell hat hwc hcj hul hun
      refine step_list (i := 6) (by kernel_rfl) rfl (by rfl) (fun K hK => ?_)
      unfold Oper.wp
      simp [execOp, hrun, Result.andThen, Act.eval, Oper.upon, Act.put]
      refine hK _ _ hS7 ?_
      clear hK K hrun
      refine take_list (i := 7) (v := .int .i64 c) rfl (by kernel_rfl) (by kernel_rfl) (by kernel_rfl) (fun _ _ _ h => h) (by rfl) (by intro w' hw'; go_simp) hS7 ?_
      simp only [Act.put, List.setIfInBounds_toArray, List.set_cons_zero, List.set_cons_succ]
      refine wpAnyH_done (by kernel_rfl) ?_ _
      have hstep : betTo a s f num den (pre ++ [x]) = if outOf (m : Int) (uptoN (a : Int) (x.1 : Int) (s : Int) (f : Int)) c num den then betTo a s f num den pre else (if (betTo a s f num den pre).1 < 0 then (x.1 : Int) else (betTo a s f num den pre).1, (x.1 : Int)) := by
        have hone : ∀ lh : Int × Int, betStep (a : Int) (s : Int) (f : Int) num den lh x.1 = if outOf (m : Int) (uptoN (a : Int) (x.1 : Int) (s : Int) (f : Int)) c num den then lh else (if lh.1 < 0 then (x.1 : Int) else lh.1, (x.1 : Int)) := fun lh => by
          unfold betStep
          simp only [Int.toNat_natCast]
          rw [HM.out, HCJ.out]
        unfold betTo
        rw [List.map_append, List.foldl_append]
        simp only [List.map_cons, List.map_nil, List.foldl_cons, List.foldl_nil]
        exact hone _
      have HSTEP := Lib.hid hstep
      have n3 : w7.cell? ⟨w.heap.size + 3, 0, none⟩ = some (.int .i64 num) := by rw [hb7.cell (cell_size HM5.out.1)]; exact HM5.out.1
      have n4 : w7.cell? ⟨w.heap.size + 3, 1, none⟩ = some (.int .i64 den) := by rw [hb7.cell (cell_size HM5.out.2.1)]; exact HM5.out.2.1
      have n5 : w7.cell? ⟨B, 0, none⟩ = some (.int .i64 m) := by rw [hb7.cell (cell_size HM5.out.2.2.1)]; exact HM5.out.2.2.1
      have HRA := Lib.hid (fun n m num den W => rare_int n m num den W)
      have HB7 := Lib.hid hb7
      clear hstep hb7 hb2 hS hS7 m0 m1 m2
      generalize uptoN (a : Int) (x.1 : Int) (s : Int) (f : Int) = u at *
      have hwl : wc.heap.size < W.heap.size := cell_size HM5.out.2.2.2.1
      have HEND : Hid (∀ W', Below W.heap.size W W' → KeepsOthers W W' ∧ KeepBut W6.heap.size wc.heap.size W W' ∧ (W'.cell? ⟨wc.heap.size, 0, none⟩ = some (.int .i64 (betTo a s f num den pre).1) ∧ W'.cell? ⟨wc.heap.size, 1, none⟩ = some (.int .i64 (betTo a s f num den pre).2) ∧ W'.frozen? ⟨wc.heap.size, 0, none⟩ = false ∧ W'.frozen? ⟨wc.heap.size, 1, none⟩ = false) ∧ KeepBut W6.heap.size wc.heap.size W6 W' ∧ Below w.heap.size w W') := Lib.hid (fun W' hb => by
        have h1 := HM5.out
        have h2 := HKB.out
        refine ⟨keepsOthers_of_below hb, KeepBut.of_below hb h2.1.1, ⟨?_, ?_, ?_, ?_⟩, h2.1.trans (KeepBut.of_below hb h2.1.1), h2.2.trans (hb.mono h2.2.size)⟩
        · rw [hb.cell hwl]; exact h1.2.2.2.1
        · rw [hb.cell hwl]; exact h1.2.2.2.2.1
        · rw [hb.frozen hwl]; exact h1.2.2.2.2.2.1
        · rw [hb.frozen hwl]; exact h1.2.2.2.2.2.2)
      cases q1 : rareB u m num den
      · cases q2 : rareB (m - u + c) m num den
        · have HQ := Lib.hid (by rw [HSTEP.out]; simp only [outOf, q1, q2, Bool.or_self, Bool.false_eq_true, if_false] : betTo a s f num den (pre ++ [x]) = (if (betTo a s f num den pre).1 < 0 then (x.1 : Int) else (betTo a s f num den pre).1, (x.1 : Int)))
          have Q1 := Lib.hid q1
          have Q2 := Lib.hid q2
          clear q1 q2 HSTEP
          gi_wp2
          refine ⟨trivial, ((callsIn_wide.2 (HRA.out _ _ _ _ _)).inRound l).mono ?_⟩
          rintro e w8 ⟨rfl, hw8⟩
          rw [Q1.out]
          have r3 : w8.cell? ⟨w.heap.size + 3, 0, none⟩ = some (.int .i64 num) := by rw [hw8.cell (cell_size n3)]; exact n3
          have r4 : w8.cell? ⟨w.heap.size + 3, 1, none⟩ = some (.int .i64 den) := by rw [hw8.cell (cell_size n4)]; exact n4
          have r5 : w8.cell? ⟨B, 0, none⟩ = some (.int .i64 m) := by rw [hw8.cell (cell_size n5)]; exact n5
          have HB8 := Lib.hid (HB7.out.trans (hw8.mono HB7.out.size))
          clear hw8 n3 n4 n5
          gi_wp2
          refine ⟨trivial, ((callsIn_wide.2 (HRA.out _ _ _ _ _)).inRound l).mono ?_⟩
          rintro e w9 ⟨rfl, hw9⟩
          rw [Q2.out]
          have hb9 := HB8.out.trans (hw9.mono HB8.out.size)
          obtain ⟨z1, z2, ⟨t1, t2, t3, t4⟩, z4, z5⟩ := HEND.out w9 hb9
          have HZ := Lib.hid (And.intro z1 (And.intro z2 (And.intro z4 z5)))
          have hle := HBL.out.1.size
          have hwcw : w.heap.size ≤ wc.heap.size := by omega
          clear r3 r4 r5 hw9 hb9 z1 z2 z4 z5
          by_cases hneg : (betTo a s f num den pre).1 < 0
          · rw [if_pos hneg] at HQ
            gi_wp2
            refine ⟨HZ.out.1.trans ((KeepsOthers.setCell _ _ _).trans (KeepsOthers.setCell _ _ _)), keepBut_setCell (keepBut_setCell HZ.out.2.1 _ _) _ _, ⟨?_, ?_, ?_, ?_⟩, keepBut_setCell (keepBut_setCell HZ.out.2.2.1 _ _) _ _, (HZ.out.2.2.2.setCell hwcw _).setCell hwcw _⟩
            · rw [HQ.out, World.cell?_setCell_other _ _ _ _ (by simp)]; exact World.cell?_setCell_same' _ _ _ (by rw [t1]; rfl)
            · rw [HQ.out]; exact World.cell?_setCell_same' _ _ _ (by rw [World.cell?_setCell_other _ _ _ _ (by simp), t2]; rfl)
            · rw [World.frozen?_setCell, World.frozen?_setCell]; exact t3
            · rw [World.frozen?_setCell, World.frozen?_setCell]; exact t4
          · rw [if_neg hneg] at HQ
            gi_wp2
            refine ⟨HZ.out.1.trans (KeepsOthers.setCell _ _ _), keepBut_setCell HZ.out.2.1 _ _, ⟨?_, ?_, ?_, ?_⟩, keepBut_setCell HZ.out.2.2.1 _ _, HZ.out.2.2.2.setCell hwcw _⟩
            · rw [HQ.out, World.cell?_setCell_other _ _ _ _ (by simp)]; exact t1
            · rw [HQ.out]; exact World.cell?_setCell_same' _ _ _ (by rw [t2]; rfl)
            · rw [World.frozen?_setCell]; exact t3
            · rw [World.frozen?_setCell]; exact t4
        · have HQ := Lib.hid (by rw [HSTEP.out]; simp only [outOf, q1, q2, Bool.or_true, if_true] : betTo a s f num den (pre ++ [x]) = betTo a s f num den pre)
          have Q1 := Lib.hid q1
          have Q2 := Lib.hid q2
          clear q1 q2 HSTEP
          gi_wp2
          refine ⟨trivial, ((callsIn_wide.2 (HRA.out _ _ _ _ _)).inRound l).mono ?_⟩
          rintro e w8 ⟨rfl, hw8⟩
          rw [Q1.out]
          have r3 : w8.cell? ⟨w.heap.size + 3, 0, none⟩ = some (.int .i64 num) := by rw [hw8.cell (cell_size n3)]; exact n3
          have r4 : w8.cell? ⟨w.heap.size + 3, 1, none⟩ = some (.int .i64 den) := by rw [hw8.cell (cell_size n4)]; exact n4
          have r5 : w8.cell? ⟨B, 0, none⟩ = some (.int .i64 m) := by rw [hw8.cell (cell_size n5)]; exact n5
          have HB8 := Lib.hid (HB7.out.trans (hw8.mono HB7.out.size))
          clear hw8 n3 n4 n5
          gi_wp2
          refine ⟨trivial, ((callsIn_wide.2 (HRA.out _ _ _ _ _)).inRound l).mono ?_⟩
          rintro e w9 ⟨rfl, hw9⟩
          rw [Q2.out]
          have HB9 := Lib.hid (HB8.out.trans (hw9.mono HB8.out.size))
          clear hw9
          gi_wp2
          have hfin := HEND.out _ HB9.out
          rw [← HQ.out] at hfin
          exact hfin
      · have HQ := Lib.hid (by rw [HSTEP.out]; simp only [outOf, q1, Bool.true_or, if_true] : betTo a s f num den (pre ++ [x]) = betTo a s f num den pre)
        have Q1 := Lib.hid q1
        clear q1 HSTEP
        gi_wp2
        refine ⟨trivial, ((callsIn_wide.2 (HRA.out _ _ _ _ _)).inRound l).mono ?_⟩
        rintro e w8 ⟨rfl, hw8⟩
        rw [Q1.out]
        have hb8 : Below W.heap.size W w8 := HB7.out.trans (hw8.mono HB7.out.size)
        have HB8 := Lib.hid hb8
        clear hw8 hb8
        gi_wp2
        refine ⟨trivial, ?_⟩
        gi_wp2
        have hfin := HEND.out _ HB8.out
        rw [← HQ.out] at hfin
        exact hfin
    case done =>
      rintro D ys W' hD hys ⟨⟨hc1, hc2, hf1, hf2⟩, hkb, hbw⟩ hK
      have hcell : ∀ p : Addr, ∀ v, W.cell? p = some v → p.block < W.heap.size → W'.cell? p = some v ∧ W'.frozen? p = W.frozen? p := fun p v hv hp => by
        have h1 := HW6.out
        have h2 := HCUT.out.2.2.size
        have h3 : p.block < W6.heap.size := Nat.lt_of_lt_of_le hp h1.size
        have h4 : p.block ≠ wc.heap.size := by omega
        exact ⟨by rw [hkb.cell h3 h4, h1.cell hp]; exact hv, by rw [hkb.frozen h3 h4, h1.frozen hp]⟩
      obtain ⟨v1, v2⟩ := hcell ⟨w.heap.size + 4, 0, none⟩ _ HD.out.2.2.2.2.2.1 (by have := HBL.out.2; show w.heap.size + 4 < _; omega)
      obtain ⟨v3, v4⟩ := hcell ⟨w.heap.size + 4, 1, none⟩ _ HD.out.2.2.2.2.2.2.1 (by have := HBL.out.2; show w.heap.size + 4 < _; omega)
      rw [HD.out.2.2.2.2.2.2.2.1] at v2
      rw [HD.out.2.2.2.2.2.2.2.2] at v4
      have hbt : betTo a s f num den ys = betN a s f num den := by
        unfold betTo betN
        rw [hys, Int.toNat_natCast]
      rw [hbt] at hc1 hc2
      have HBW := Lib.hid hbw
      have HDK := Lib.hid (And.intro hD hK)
      clear hcell hkb hbw hD hK hbt hys
      obtain ⟨q, hq⟩ : ∃ q, q = betN a s f num den := ⟨_, rfl⟩
      rw [← hq] at hc1 hc2
      have HQQ := Lib.hid hq
      clear hq
      gi_wp2
      go_wp2
      have hle : w.heap.size ≤ w.heap.size + 4 := Nat.le_add_right _ _
      have hK' := ((KeepsOthers.setCell W' ⟨w.heap.size + 4, 0, none⟩ (.int .i64 q.1)).trans (KeepsOthers.setCell _ ⟨w.heap.size + 4, 1, none⟩ (.int .i64 q.2))).same D _ HDK.out.2 rfl
      refine ⟨by simp, .inl ⟨_, _, rfl, run_takeDeferred hK', ?_⟩⟩
      have hg := grownBy_putObj' ((W'.setCell ⟨w.heap.size + 4, 0, none⟩ (.int .i64 q.1)).setCell ⟨w.heap.size + 4, 1, none⟩ (.int .i64 q.2)) D (.deferred none)
      have y1 := Go.cell_kept (show ((W'.setCell ⟨w.heap.size + 4, 0, none⟩ (.int .i64 q.1)).setCell ⟨w.heap.size + 4, 1, none⟩ (.int .i64 q.2)).cell? ⟨w.heap.size + 4, 0, none⟩ = some (.int .i64 q.1) by rw [World.cell?_setCell_other _ _ _ _ (by simp)]; exact World.cell?_setCell_same' _ _ _ (by rw [v1]; rfl)) hg (fun r e => by cases e; exact ⟨_, hK', rfl⟩)
      have y2 := Go.cell_kept (show ((W'.setCell ⟨w.heap.size + 4, 0, none⟩ (.int .i64 q.1)).setCell ⟨w.heap.size + 4, 1, none⟩ (.int .i64 q.2)).cell? ⟨w.heap.size + 4, 1, none⟩ = some (.int .i64 q.2) by exact World.cell?_setCell_same' _ _ _ (by rw [World.cell?_setCell_other _ _ _ _ (by simp), v3]; rfl)) hg (fun r e => by cases e; exact ⟨_, hK', rfl⟩)
      refine ⟨.tuple #[.agg #[.int .i64 q.1, .int .i64 q.2], .int .i64 0], ?_, by rw [HQQ.out], ((HBW.out.setCell hle _).setCell hle _).trans (belowK_b (w := W6) (by have := HBW.out.size; have := hww.size; omega) _ D _ _ HDK.out.1 hK' rfl rfl)⟩
      simp [results, Try.results31, go_sem, y1, y2]
    case stop =>
      rintro D c pre W _ _ h _
      exact h.elim
end Go.Proofs.Ytmgdidhhgdpobaa.Hand

/- Between, all cases. -/
namespace Go.Proofs.Ytmgdidhhgdpobaa.Hand
set_option linter.unusedVariables false
set_option linter.unusedSimpArgs false
open Go.RowKit Go.Maps Go.Proofs.YtmgdidhhgdpobaaW.PrintWords Go.Proofs.YtmgdidhhgdpobaaW.PrintLast Go.Proofs.YtmgdidhhgdpobaaW.PrintMore Go.Proofs.Ytmgdidhhgdpobaa.PrA

set_option maxRecDepth 100000 in
set_option maxHeartbeats 8000000 in
theorem check_Between.calls (a0 a1 a2 a3_0 a3_1 r1_0 r1_1 r2 : Int) (w : World) (h : check_Between.f a0 a1 a2 a3_0 a3_1 = some (r1_0, r1_1, r2)) :
    Calls Try.prog 31 #[.int .i64 a0, .int .i64 a1, .int .i64 a2, .agg #[.int .i64 a3_0, .int .i64 a3_1]] w
      fun e w' => e = .returned (.tuple #[.agg #[.int .i64 r1_0, .int .i64 r1_1], .int .i64 r2]) ∧ Below w.heap.size w w' := by
  replace h := Option.some.inj h
  have hu27 := Try.underlying27
  have hc := fun W => isCase_any a0 0 a1 a2 W
  have hk := fun W => isRisk_int a3_0 a3_1 W
  cases hb : caseB a0 0 a1 a2
  · rw [hb] at h hc
    simp only [Bool.false_eq_true, if_false, Prod.mk.injEq] at h
    obtain ⟨rfl, rfl, rfl⟩ := h
    have HC := Lib.hid hc
    clear hc hk hb
    go_enter Try.func31, Try.ntmps31
    go_wp2_with fail
    refine (HC.out _).mono ?_
    rintro e w1 ⟨rfl, hb1⟩
    have c1 : w1.cell? ⟨w.heap.size + 1 + 1 + 1 + 1, 0, none⟩ = some (.int .i64 0) := by rw [hb1.cell (by simp)]; simp [go_sem]
    have c2 : w1.cell? ⟨w.heap.size + 1 + 1 + 1 + 1, 1, none⟩ = some (.int .i64 0) := by rw [hb1.cell (by simp)]; simp [go_sem]
    have f1 : w1.frozen? ⟨w.heap.size + 1 + 1 + 1 + 1, 0, none⟩ = false := by rw [hb1.frozen (by simp)]; simp [go_sem]
    have f2 : w1.frozen? ⟨w.heap.size + 1 + 1 + 1 + 1, 1, none⟩ = false := by rw [hb1.frozen (by simp)]; simp [go_sem]
    have HB1 := Lib.hid hb1
    clear hb1
    go_wp2
    refine bodyPost_ret (v := .tuple #[.agg #[.int .i64 0, .int .i64 0], .int .i64 3]) (by simp [results, Try.results31, go_sem, c1, c2]) rfl ⟨rfl, ?_⟩
    exact ((((((((Below.refl w.heap.size w).alloc (Nat.le_refl _) _).alloc (by simp) _).alloc (by simp; omega) _).alloc (by simp; omega) _).alloc (by simp; omega) _).trans (HB1.out.mono (by simp; omega))).setCell (by simp; omega) _).setCell (by simp; omega) _
  · rw [hb] at h hc
    simp only [if_true] at h
    cases hr : riskOk a3_0 a3_1
    · rw [hr] at h hk
      simp only [Bool.false_eq_true, if_false, Prod.mk.injEq] at h
      obtain ⟨rfl, rfl, rfl⟩ := h
      have HC := Lib.hid hc
      have HK := Lib.hid hk
      clear hc hk hb hr
      obtain ⟨W, hW⟩ : ∃ W, W = ((((w.alloc (.cells #[.int .i64 a0] 3)).alloc (.cells #[.int .i64 a1] 3)).alloc (.cells #[.int .i64 a2] 3)).alloc (.cells #[.int .i64 a3_0, .int .i64 a3_1] 27)).alloc (.cells #[.int .i64 0, .int .i64 0] 39) := ⟨_, rfl⟩
      have d3 : W.cell? ⟨w.heap.size + 3, 0, none⟩ = some (.int .i64 a3_0) := by rw [hW]; simp [go_sem]
      have d4 : W.cell? ⟨w.heap.size + 3, 1, none⟩ = some (.int .i64 a3_1) := by rw [hW]; simp [go_sem]
      have d5 : W.cell? ⟨w.heap.size + 4, 0, none⟩ = some (.int .i64 0) := by rw [hW]; simp [go_sem]
      have d6 : W.cell? ⟨w.heap.size + 4, 1, none⟩ = some (.int .i64 0) := by rw [hW]; simp [go_sem]
      have d7 : W.frozen? ⟨w.heap.size + 4, 0, none⟩ = false := by rw [hW]; simp [go_sem]
      have d8 : W.frozen? ⟨w.heap.size + 4, 1, none⟩ = false := by rw [hW]; simp [go_sem]
      have hbl : Below w.heap.size w W := by rw [hW]; exact (((((Below.refl w.heap.size w).alloc (Nat.le_refl _) _).alloc (by simp) _).alloc (by simp; omega) _).alloc (by simp; omega) _).alloc (by simp; omega) _
      have HD := Lib.hid (And.intro d3 (And.intro d4 (And.intro d5 (And.intro d6 (And.intro d7 (And.intro d8 hbl))))))
      clear d3 d4 d5 d6 d7 d8 hbl
      go_enter Try.func31, Try.ntmps31
      go_wp2_with fail
      rw [← hW]
      clear hW
      refine (HC.out _).mono ?_
      rintro e w1 ⟨rfl, hb1⟩
      obtain ⟨d3, d4, d5, d6, d7, d8, hbl⟩ := HD.out
      have e3 : w1.cell? ⟨w.heap.size + 3, 0, none⟩ = some (.int .i64 a3_0) := by rw [hb1.cell (cell_size d3)]; exact d3
      have e4 : w1.cell? ⟨w.heap.size + 3, 1, none⟩ = some (.int .i64 a3_1) := by rw [hb1.cell (cell_size d4)]; exact d4
      have HB1 := Lib.hid hb1
      clear hb1 d3 d4 d5 d6 d7 d8 hbl
      go_wp2_with fail
      refine (HK.out _).mono ?_
      rintro e w2 ⟨rfl, hb2⟩
      obtain ⟨d3, d4, d5, d6, d7, d8, hbl⟩ := HD.out
      have hb12 := HB1.out.trans (hb2.mono HB1.out.size)
      have c1 : w2.cell? ⟨w.heap.size + 4, 0, none⟩ = some (.int .i64 0) := by rw [hb12.cell (cell_size d5)]; exact d5
      have c2 : w2.cell? ⟨w.heap.size + 4, 1, none⟩ = some (.int .i64 0) := by rw [hb12.cell (cell_size d6)]; exact d6
      have f1 : w2.frozen? ⟨w.heap.size + 4, 0, none⟩ = false := by rw [hb12.frozen (cell_size d5)]; exact d7
      have f2 : w2.frozen? ⟨w.heap.size + 4, 1, none⟩ = false := by rw [hb12.frozen (cell_size d6)]; exact d8
      have HB2 := Lib.hid (hbl.trans (hb12.mono hbl.size))
      clear d3 d4 d5 d6 d7 d8 hbl hb12 hb2 e3 e4
      go_wp2
      refine bodyPost_ret (v := .tuple #[.agg #[.int .i64 0, .int .i64 0], .int .i64 2]) (by simp [results, Try.results31, go_sem, c1, c2]) rfl ⟨rfl, ?_⟩
      exact (HB2.out.setCell (by simp; omega) _).setCell (by simp; omega) _
    · rw [hr] at h
      simp only [if_true, Prod.mk.injEq] at h
      obtain ⟨rfl, rfl, rfl⟩ := h
      obtain ⟨p1, p2, p3, p4, p5, p6, p7, p8⟩ := case_in hb
      obtain ⟨a, rfl⟩ := Int.eq_ofNat_of_zero_le (show 0 ≤ a0 by omega)
      obtain ⟨s, rfl⟩ := Int.eq_ofNat_of_zero_le p5
      obtain ⟨f, rfl⟩ := Int.eq_ofNat_of_zero_le p7
      exact between_good a s f a3_0 a3_1 w (by omega) (by omega) (by omega) (by omega) hr
end Go.Proofs.Ytmgdidhhgdpobaa.Hand
