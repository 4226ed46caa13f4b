/- The iterator counts has its contract: all numbers of wrong logs, with in how many samples at most so many are found. -/
import Derived.Test.YtmgdidhhgdpobaaHRound
import Derived.Test.YtmgdidhhgdpobaaHFirst
import Derived.RangeFuncNested
import Derived.RangeFuncBound
import Derived.RangeFuncCalls
import Derived.RangeFuncLeaves
import Derived.RangeFuncFrom
import Derived.Shelf.Abstract
import Derived.Shelf.RegionOpen
import Derived.OwnWalkIn
import Derived.TacticsInMore
import Derived.LoopNIn
import Derived.LoopIn
namespace Go.Proofs.Ytmgdidhhgdpobaa.Hand
open Go.RowKit Go.Shelf Go.Maps Go.Proofs.YtmgdidhhgdpobaaW.PrintWords Go.Proofs.YtmgdidhhgdpobaaW.PrintLast Go.Proofs.YtmgdidhhgdpobaaW.PrintMore Go.Proofs.Ytmgdidhhgdpobaa.PrA
attribute [local go_sem] Oper.semAt_some

/-- all that lay stays but for one block -/
def KeepBut (n B : Nat) (W W' : World) : Prop := W.heap.size ≤ W'.heap.size ∧ ∀ k, k < n → k ≠ B → W'.heap[k]? = W.heap[k]?
theorem KeepBut.refl (n B : Nat) (W : World) : KeepBut n B W W := ⟨Nat.le_refl _, fun _ _ _ => rfl⟩
theorem KeepBut.trans {n B : Nat} {X Y Z : World} (h : KeepBut n B X Y) (k : KeepBut n B Y Z) : KeepBut n B X Z := ⟨Nat.le_trans h.1 k.1, fun i h1 h2 => (k.2 i h1 h2).trans (h.2 i h1 h2)⟩
theorem KeepBut.of_below {n B m : Nat} {X Y : World} (h : Below m X Y) (hn : n ≤ m) : KeepBut n B X Y := ⟨h.size, fun k h1 _ => h.block k (Nat.lt_of_lt_of_le h1 hn)⟩
theorem KeepBut.putObj {n B : Nat} {w : World} (hn : n ≤ w.heap.size) (W : World) (l : Nat) (o o' : Obj) (hl : w.heap.size ≤ l) (h : W.heap[l]? = some o) (_ : o.isCells = false) (_ : o.isWalk = false) : KeepBut n B W (W.putObj l o') :=
  KeepBut.of_below ((Below.refl n W).grown (grownBy_putObj' W l o') (by have := (Array.getElem?_eq_some_iff.1 h).1; omega) (fun k e => by cases e; omega)) (Nat.le_refl _)
theorem KeepBut.cell {n B : Nat} {X Y : World} (h : KeepBut n B X Y) {p : Addr} (hp : p.block < n) (hb : p.block ≠ B) : Y.cell? p = X.cell? p := World.cell?_of_block (h.2 p.block hp hb)
theorem KeepBut.frozen {n B : Nat} {X Y : World} (h : KeepBut n B X Y) {p : Addr} (hp : p.block < n) (hb : p.block ≠ B) : Y.frozen? p = X.frozen? p := World.frozen?_of_block (h.2 p.block hp hb)

theorem grown_of_below {W W' : World} (h : Below W.heap.size W W') : W.grownBy W' none := ⟨h.os, h.tape, h.output, h.size, fun k hk _ => h.block k hk⟩

abbrev UpTo (a : Nat) := { k : Nat // k ≤ a }
/-- what comes with a number -/
def countsEnc (a s f : Nat) (x : UpTo a) : Array Value := #[.int .i64 (x.1 : Int), .int .i64 (uptoN (a : Int) (x.1 : Int) (s : Int) (f : Int))]

theorem counts_any (a s f : Int) (w : World) : Calls Try.prog 67 #[.int .i64 a, .int .i64 s, .int .i64 f] w fun e w' =>
    e = .returned (.func (.func 78) #[] #[.pointer (some ⟨w.heap.size, 0, none⟩), .pointer (some ⟨w.heap.size + 1, 0, none⟩), .pointer (some ⟨w.heap.size + 2, 0, none⟩)]) ∧
    w' = ((w.alloc (.cells #[.int .i64 a] 3)).alloc (.cells #[.int .i64 s] 3)).alloc (.cells #[.int .i64 f] 3) := by
  go_enter Try.func67, Try.ntmps67
  go_wp2
  go_ret
  exact ⟨rfl, rfl⟩

set_option maxRecDepth 100000 in
set_option maxHeartbeats 4000000 in
theorem counts_stops (a s f b n0 B : Nat) (ha : a ≤ 50) (hs : s ≤ a) (hf : f ≤ s) (w : World) (hn0 : n0 ≤ w.heap.size) (hb : b + 2 < n0) (hB : B < b)
    (c1 : w.cell? ⟨b, 0, none⟩ = some (.int .i64 (a : Int))) (c2 : w.cell? ⟨b + 1, 0, none⟩ = some (.int .i64 (s : Int))) (c3 : w.cell? ⟨b + 2, 0, none⟩ = some (.int .i64 (f : Int))) (n : Nat) :
    SeqStopsK Fence.wide n Try.prog 78 #[.pointer (some ⟨b, 0, none⟩), .pointer (some ⟨b + 1, 0, none⟩), .pointer (some ⟨b + 2, 0, none⟩)] (countsEnc a s f) (KeepBut n0 B) (fun xs => xs.map (·.1) = List.range (a + 1)) (fun _ => True) (a + 1) w := fun l J Jx W hW hJ hJx hY h0 => by
  have d1 : W.cell? ⟨b, 0, none⟩ = some (.int .i64 (a : Int)) := (hW.cell (by show b < _; omega)).trans c1
  have d2 : W.cell? ⟨b + 1, 0, none⟩ = some (.int .i64 (s : Int)) := (hW.cell (by show b + 1 < _; omega)).trans c2
  have d3 : W.cell? ⟨b + 2, 0, none⟩ = some (.int .i64 (f : Int)) := (hW.cell (by show b + 2 < _; omega)).trans c3
  refine callsIn_of_wp Try.func78 rfl trivial ?_ rfl
  simp only [Try.ntmps78, List.size_toArray, List.length_cons, List.length_nil, Nat.reduceAdd, Nat.reduceSub, Array.replicate_succ, Array.replicate_zero, List.push_toArray, List.append_toArray, List.nil_append, List.cons_append]
  gi_wp2
  gi_loopw [8] (fun i wr => ∃ (k : Nat) (pre : List (UpTo a)), k ≤ a + 1 ∧ i = .int .i64 k ∧ Hid (pre.map (·.1) = List.range k ∧ J pre wr ∧ KeepBut n0 B W wr ∧ W.heap.size ≤ wr.heap.size)) (fun i _ => a + 1 - (intOf i).toNat)
  case atStart => exact ⟨0, [], Nat.zero_le _, rfl, Lib.hid ⟨rfl, h0, KeepBut.refl _ _ _, Nat.le_refl _⟩⟩
  case round =>
    obtain ⟨k, pre, hk, rfl, HI⟩ := hrel
    by_cases hlt : k < a + 1
    · have e1 : wr.cell? ⟨b, 0, none⟩ = some (.int .i64 (a : Int)) := (HI.out.2.2.1.cell (by show b < n0; omega) (by show b ≠ B; omega)).trans d1
      have e2 : wr.cell? ⟨b + 1, 0, none⟩ = some (.int .i64 (s : Int)) := (HI.out.2.2.1.cell (by show b + 1 < n0; omega) (by show b + 1 ≠ B; omega)).trans d2
      have e3 : wr.cell? ⟨b + 2, 0, none⟩ = some (.int .i64 (f : Int)) := (HI.out.2.2.1.cell (by show b + 2 < n0; omega) (by show b + 2 ≠ B; omega)).trans d3
      have HU := Lib.hid (upTo_int (a : Int) (k : Int) (s : Int) (f : Int) (by omega) (by omega) (by omega) (by omega) (by omega) (by omega) wr)
      have hlti : (k : Int) < (a : Int) + 1 := by omega
      have hpl : pre.length = k := by have := congrArg List.length HI.out.1; simpa using this
      clear d1 d2 d3
      gi_wp2
      refine ⟨trivial, fun h => (by simp [Fence.wide] at h), ?_⟩
      refine (callsIn_wide.2 HU.out).mono ?_
      rintro e w2 ⟨rfl, hb2⟩
      obtain ⟨fn, tmps, assign, body, hy, hR⟩ := hY pre ⟨k, by omega⟩ w2 (hJ pre wr w2 none HI.out.2.1 (grown_of_below hb2) (fun r e => by cases e)) (by omega)
      dsimp only [countsEnc] at hy
      have HB2 := Lib.hid (KeepBut.of_below (B := B) hb2 (Nat.le_trans hn0 (Nat.le_trans hW.size HI.out.2.2.2)))
      have HB3 := Lib.hid hb2.size
      clear hb2
      gi_wp2
      refine ⟨fun h => (by simp [Fence.wide] at h), hR.mono ?_⟩
      rintro e W3 (⟨rfl, hJ3, hk3⟩ | ⟨rfl, hJx3⟩)
      · have H3 := Lib.hid (And.intro hJ3 hk3)
        clear hJ3 hk3
        gi_wp2
        go_roundw
        case rel => exact ⟨k + 1, pre ++ [⟨k, by omega⟩], by omega, by go_num, Lib.hid ⟨by rw [List.map_append, HI.out.1, List.range_succ]; rfl, H3.out.1, (HI.out.2.2.1.trans HB2.out).trans H3.out.2, Nat.le_trans HI.out.2.2.2 (Nat.le_trans HB3.out H3.out.2.1)⟩⟩
        case measure => simp [intOf]; omega
      · gi_wp2
        refine bodyPost_ret (results_none rfl _ _ _) rfl ?_
        exact ⟨⟨_, rfl⟩, .inr ⟨_, trivial, hJx3⟩⟩
    · obtain rfl : k = a + 1 := by omega
      gi_wp2
      go_end0
      exact ⟨⟨_, rfl⟩, .inl ⟨pre, HI.out.1, HI.out.2.1⟩⟩
end Go.Proofs.Ytmgdidhhgdpobaa.Hand
