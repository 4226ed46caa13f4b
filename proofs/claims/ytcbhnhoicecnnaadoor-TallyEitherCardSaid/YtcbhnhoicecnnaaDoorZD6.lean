/- Texts of the session's, joined: what HWorks, HRow names of them, in build order (joined and cut by a program of the session's). -/
import Derived.Test.YtcbhnhoicecnnaaDoorZD5
import Derived.Test.YtcbhnhoicecnnaaDoorRows
import Derived.Below
import Derived.Carry
import Derived.ChangeOld
import Derived.ChangeSame
import Derived.Deep.SlicePairs
import Derived.LaidMore
import Derived.OpenShut
import Derived.ProofKit
import Derived.ShutString
import Derived.SizedLaws
import Derived.Stop.Joined
import Derived.WalkKit
set_option linter.unusedVariables false
set_option linter.unusedSimpArgs false
namespace Go.Proofs.YtcbhnhoicecnnaaDoor.Hand
set_option linter.unusedVariables false
set_option linter.unusedSimpArgs false
open Go.ChangeShapes Go.WideShapes Go.ChangeAt Go.RowKit Go.Deep Go.Proofs.YtcbhnhoicecnnaaDoorW.PrintWords Go.Proofs.YtcbhnhoicecnnaaDoor.PrK
set_option linter.unusedVariables false
set_option maxRecDepth 100000
theorem ownD : ownKnob Tryd.prog.godebug = none := by kernel_rfl
theorem laidOutD : laidOutB Tryd.prog = true := by kernel_rfl
def vInt : Value → Int
  | .int _ n => n
  | _ => 0
section
variable {H : Type} {enc : TypeId × Value → H} {W : World} {base : Nat} {held : Bool} {fuel : Nat} {cs : List Value} {x : DataW H × List MemPlace}
theorem part_structD {t : TypeId} {P : Program} {spare : Nat → Bool} {fs : Array Field} (ht : P.underlying t = some (.struct fs)) (h : DataW.trod enc P W base spare held fuel t cs = some x) :
    ∃ (xs : List (DataW H × List MemPlace)) (n : Nat), cs.length = P.cellsOf t ∧ xs.length = fs.size ∧
      ∀ (i : Nat) (f : Field), fs[i]? = some f → DataW.trod enc P W base spare held n f.type ((cs.drop f.offset).take (P.cellsOf f.type)) = xs[i]? := by
  obtain ⟨xs, n, _, _, h1, h2, h3⟩ := DataW.trod_struct ht h
  exact ⟨xs, n, h1, h2, h3⟩
theorem open_rngs (h : DataW.trod enc Tryd.prog W base (fun _ => true) held fuel 22 cs = some x) :
    ∃ (A : Option Addr) (c : Nat) (l : List S24), cs = [.slice A l.length c] ∧ Kd.C k24 W A l.length l ∧ l.length ≤ c := by
  rcases open_slice_pairs Tryd.underlying22 Tryd.underlying24 (by kernel_rfl) rfl rfl (by kernel_rfl) (by kernel_rfl) h with ⟨rfl, _⟩ | ⟨a, len, cap, m, n, V0, V1, D0, D1, P0, P1, rfl, _, hl, hm, hmm, _, hx⟩
  · exact ⟨none, 0, [], rfl, ⟨rfl, by simp, fun hn => absurd hn (by simp)⟩, Nat.le_refl _⟩
  have hmc : m = cap := by rw [hmm]; rfl
  have hlen : ((List.range len).map fun i => (⟨vInt (V0 i), vInt (V1 i)⟩ : S24)).length = len := by simp
  have hm2 : maxLen ≤ 9223372036854775807 := by unfold maxLen; omega
  refine ⟨some a, cap, (List.range len).map fun i => ⟨vInt (V0 i), vInt (V1 i)⟩, by rw [hlen], ⟨rfl, by rw [hlen]; omega, fun hn => ⟨a, rfl, fun j p hp => ?_⟩⟩, by rw [hlen]; exact hl⟩
  have hj : j < len := by
    have := (List.getElem?_eq_some_iff.1 hp).1
    rwa [hlen] at this
  rw [List.getElem?_map, List.getElem?_range hj] at hp
  obtain rfl := Option.some.inj hp
  obtain ⟨g0, g1, g2, g3⟩ := hx j (by omega)
  obtain ⟨k0, e0, _, _⟩ := DataW.trod_int Tryd.underlying2 g2
  obtain ⟨k1, e1, _, _⟩ := DataW.trod_int Tryd.underlying2 g3
  simp only [List.cons.injEq, and_true] at e0 e1
  refine ⟨_, rfl, k24_mk W _, fun i u hu => ?_⟩
  match i, hu with
  | 0, hu =>
    rw [← Option.some.inj hu]
    show W.cell? (a.add (j * 2 + 0)) = some (.int .i64 (vInt (V0 j)))
    rw [Nat.add_zero, g0, e0]
    rfl
  | 1, hu =>
    rw [← Option.some.inj hu]
    show W.cell? (a.add (j * 2 + 1)) = some (.int .i64 (vInt (V1 j)))
    rw [g1, e1]
    rfl
theorem open_range (h : DataW.trod enc Tryd.prog W base (fun _ => true) held fuel 24 cs = some x) : ∃ a b : Int, cs = [.int .i64 a, .int .i64 b] := by
  obtain ⟨y0, y1, n, _, hl, f0, f1⟩ := trod_struct2 Tryd.underlying24 h
  rw [show Tryd.prog.cellsOf 24 = 2 by kernel_rfl] at hl
  match cs, hl with
  | [c0, c1], _ =>
    have h2 : Tryd.prog.cellsOf 2 = 1 := by kernel_rfl
    simp only [h2, List.drop_zero, List.drop_succ_cons, List.take_succ_cons, List.take_zero] at f0 f1
    obtain ⟨a, e0, _, _⟩ := DataW.trod_int Tryd.underlying2 f0
    obtain ⟨b, e1, _, _⟩ := DataW.trod_int Tryd.underlying2 f1
    simp only [List.cons.injEq, and_true] at e0 e1
    exact ⟨a, b, by rw [e0, e1]⟩
theorem open_sheet (h : DataW.trod enc Tryd.prog W base (fun _ => true) held fuel 26 cs = some x) : ∃ s : ShM, cs = s.cells ∧ ShR W s := by
  obtain ⟨xs, n, hl, hxl, hf⟩ := part_structD Tryd.underlying26 h
  rw [show Tryd.prog.cellsOf 26 = 5 by kernel_rfl] at hl
  match cs, hl with
  | [c0, c1, c2, c3, c4], _ =>
    have hn : ∀ i, i < 4 → ∃ y, xs[i]? = some y := fun i hi => ⟨_, List.getElem?_eq_getElem (by rw [hxl]; exact hi)⟩
    have z22 : Tryd.prog.cellsOf 22 = 1 := by kernel_rfl
    have z24 : Tryd.prog.cellsOf 24 = 2 := by kernel_rfl
    obtain ⟨y0, h0⟩ := hn 0 (by decide)
    obtain ⟨y1, h1⟩ := hn 1 (by decide)
    obtain ⟨y2, h2⟩ := hn 2 (by decide)
    obtain ⟨y3, h3⟩ := hn 3 (by decide)
    have f0 : DataW.trod enc Tryd.prog W base (fun _ => true) held n 22 (([c0, c1, c2, c3, c4].drop 0).take (Tryd.prog.cellsOf 22)) = xs[0]? := hf 0 _ rfl
    have f1 : DataW.trod enc Tryd.prog W base (fun _ => true) held n 22 (([c0, c1, c2, c3, c4].drop 1).take (Tryd.prog.cellsOf 22)) = xs[1]? := hf 1 _ rfl
    have f2 : DataW.trod enc Tryd.prog W base (fun _ => true) held n 24 (([c0, c1, c2, c3, c4].drop 2).take (Tryd.prog.cellsOf 24)) = xs[2]? := hf 2 _ rfl
    have f3 : DataW.trod enc Tryd.prog W base (fun _ => true) held n 22 (([c0, c1, c2, c3, c4].drop 4).take (Tryd.prog.cellsOf 22)) = xs[3]? := hf 3 _ rfl
    rw [h0] at f0
    rw [h1] at f1
    rw [h2] at f2
    rw [h3] at f3
    simp only [z22, z24, List.drop_zero, List.drop_succ_cons, List.take_succ_cons, List.take_zero] at f0 f1 f2 f3
    obtain ⟨A0, k0, l0, e0, r0, q0⟩ := open_rngs f0
    obtain ⟨A1, k1, l1, e1, r1, q1⟩ := open_rngs f1
    obtain ⟨a2, a3, e2⟩ := open_range f2
    obtain ⟨A4, k4, l4, e4, r4, q4⟩ := open_rngs f3
    simp only [List.cons.injEq, and_true] at e0 e1 e2 e4
    refine ⟨⟨A0, k0, l0, A1, k1, l1, a2, a3, A4, k4, l4⟩, ?_, ⟨r0, q0, r1, q1, r4, q4⟩⟩
    rw [e0, e1, e2.1, e2.2, e4]
    rfl
theorem open_s64 (h : DataW.trod enc Tryd.prog W base (fun _ => true) held fuel 27 cs = some x) : ∃ (A : Option Addr) (c : Nat) (l : List Int), cs = [.slice A l.length c] ∧ Kd.C (Kd.int .i64) W A l.length l ∧ l.length ≤ c ∧ ∀ n ∈ l, (Lit.int .i64 n).wf = true := by
  have h1 : ∃ (A0 : Option Addr) (n0 c0 : Nat) (z0 : List Int), cs = [.slice A0 n0 c0] ∧ ((A0 = none ∧ n0 = 0 ∧ c0 = 0 ∧ z0 = []) ∨ ∃ x, A0 = some x ∧ n0 ≤ c0 ∧ c0 ≤ maxLen ∧ z0.length = c0 ∧ (∀ i, i < z0.length → W.cell? (x.add i) = some (.int .i64 (z0.getD i 0))) ∧ ∀ n ∈ z0, (Lit.int .i64 n).wf = true) := by
    rcases open_ints Tryd.underlying27 Tryd.underlying2 (by kernel_rfl) h with ⟨hcs, _⟩ | ⟨x, l, c, zs, hcs, _, hl, hm, hz, _, hcell, hwz⟩
    · exact ⟨none, 0, 0, [], hcs, .inl ⟨rfl, rfl, rfl, rfl⟩⟩
    · exact ⟨some x, l, c, zs, hcs, .inr ⟨_, rfl, hl, hm, by simpa using hz, hcell, hwz⟩⟩
  obtain ⟨A0, n0, c0, z0, rfl, hr⟩ := h1
  obtain ⟨l, rfl, hr, hm, hw, hc⟩ := ReadsInt.ofRowC hr
  exact ⟨A0, c0, l, rfl, Kd.C_of_reads (d := (0 : Int)) (h1 := fun _ => rfl) hr, hc, hw⟩
theorem open_sint (h : DataW.trod enc Tryd.prog W base (fun _ => true) held fuel 35 cs = some x) : ∃ (A : Option Addr) (c : Nat) (l : List Int), cs = [.slice A l.length c] ∧ Kd.C (Kd.int .i64) W A l.length l ∧ l.length ≤ c ∧ ∀ n ∈ l, (Lit.int .i64 n).wf = true := by
  have h1 : ∃ (A0 : Option Addr) (n0 c0 : Nat) (z0 : List Int), cs = [.slice A0 n0 c0] ∧ ((A0 = none ∧ n0 = 0 ∧ c0 = 0 ∧ z0 = []) ∨ ∃ x, A0 = some x ∧ n0 ≤ c0 ∧ c0 ≤ maxLen ∧ z0.length = c0 ∧ (∀ i, i < z0.length → W.cell? (x.add i) = some (.int .i64 (z0.getD i 0))) ∧ ∀ n ∈ z0, (Lit.int .i64 n).wf = true) := by
    rcases open_ints Tryd.underlying35 Tryd.underlying3 (by kernel_rfl) h with ⟨hcs, _⟩ | ⟨x, l, c, zs, hcs, _, hl, hm, hz, _, hcell, hwz⟩
    · exact ⟨none, 0, 0, [], hcs, .inl ⟨rfl, rfl, rfl, rfl⟩⟩
    · exact ⟨some x, l, c, zs, hcs, .inr ⟨_, rfl, hl, hm, by simpa using hz, hcell, hwz⟩⟩
  obtain ⟨A0, n0, c0, z0, rfl, hr⟩ := h1
  obtain ⟨l, rfl, hr, hm, hw, hc⟩ := ReadsInt.ofRowC hr
  exact ⟨A0, c0, l, rfl, Kd.C_of_reads (d := (0 : Int)) (h1 := fun _ => rfl) hr, hc, hw⟩
theorem open_su16 (h : DataW.trod enc Tryd.prog W base (fun _ => true) held fuel 48 cs = some x) : ∃ (A : Option Addr) (c : Nat) (l : List Int), cs = [.slice A l.length c] ∧ Kd.C (Kd.int .u16) W A l.length l ∧ l.length ≤ c ∧ ∀ n ∈ l, (Lit.int .u16 n).wf = true := by
  have h1 : ∃ (A0 : Option Addr) (n0 c0 : Nat) (z0 : List Int), cs = [.slice A0 n0 c0] ∧ ((A0 = none ∧ n0 = 0 ∧ c0 = 0 ∧ z0 = []) ∨ ∃ x, A0 = some x ∧ n0 ≤ c0 ∧ c0 ≤ maxLen ∧ z0.length = c0 ∧ (∀ i, i < z0.length → W.cell? (x.add i) = some (.int .u16 (z0.getD i 0))) ∧ ∀ n ∈ z0, (Lit.int .u16 n).wf = true) := by
    rcases open_ints Tryd.underlying48 Tryd.underlying56 (by kernel_rfl) h with ⟨hcs, _⟩ | ⟨x, l, c, zs, hcs, _, hl, hm, hz, _, hcell, hwz⟩
    · exact ⟨none, 0, 0, [], hcs, .inl ⟨rfl, rfl, rfl, rfl⟩⟩
    · exact ⟨some x, l, c, zs, hcs, .inr ⟨_, rfl, hl, hm, by simpa using hz, hcell, hwz⟩⟩
  obtain ⟨A0, n0, c0, z0, rfl, hr⟩ := h1
  obtain ⟨l, rfl, hr, hm, hw, hc⟩ := ReadsInt.ofRowC hr
  exact ⟨A0, c0, l, rfl, Kd.C_of_reads (d := (0 : Int)) (h1 := fun _ => rfl) hr, hc, hw⟩
theorem open_su8 (h : DataW.trod enc Tryd.prog W base (fun _ => true) held fuel 49 cs = some x) : ∃ (A : Option Addr) (c : Nat) (l : List Int), cs = [.slice A l.length c] ∧ Kd.C (Kd.int .u8) W A l.length l ∧ l.length ≤ c ∧ ∀ n ∈ l, (Lit.int .u8 n).wf = true := by
  have h1 : ∃ (A0 : Option Addr) (n0 c0 : Nat) (z0 : List Int), cs = [.slice A0 n0 c0] ∧ ((A0 = none ∧ n0 = 0 ∧ c0 = 0 ∧ z0 = []) ∨ ∃ x, A0 = some x ∧ n0 ≤ c0 ∧ c0 ≤ maxLen ∧ z0.length = c0 ∧ (∀ i, i < z0.length → W.cell? (x.add i) = some (.int .u8 (z0.getD i 0))) ∧ ∀ n ∈ z0, (Lit.int .u8 n).wf = true) := by
    rcases open_ints Tryd.underlying49 Tryd.underlying5 (by kernel_rfl) h with ⟨hcs, _⟩ | ⟨x, l, c, zs, hcs, _, hl, hm, hz, _, hcell, hwz⟩
    · exact ⟨none, 0, 0, [], hcs, .inl ⟨rfl, rfl, rfl, rfl⟩⟩
    · exact ⟨some x, l, c, zs, hcs, .inr ⟨_, rfl, hl, hm, by simpa using hz, hcell, hwz⟩⟩
  obtain ⟨A0, n0, c0, z0, rfl, hr⟩ := h1
  obtain ⟨l, rfl, hr, hm, hw, hc⟩ := ReadsInt.ofRowC hr
  exact ⟨A0, c0, l, rfl, Kd.C_of_reads (d := (0 : Int)) (h1 := fun _ => rfl) hr, hc, hw⟩
end
def laidD : List (String × DataW Unit) := [("peavey/tally.gate", Rows.laid_peavey_tally_gate), ("peavey/tally.boom", Rows.laid_peavey_tally_boom)]
theorem gGate : Tryd.prog.globalNamed "peavey/tally.gate" = some 0 := by kernel_rfl
theorem gBoom : Tryd.prog.globalNamed "peavey/tally.boom" = some 1 := by kernel_rfl
theorem tGate : (Tryd.prog.globals[0]?).map (·.type) = some 92 := by kernel_rfl
theorem tBoom : (Tryd.prog.globals[1]?).map (·.type) = some 92 := by kernel_rfl
theorem node_laid {W : World} {fuel : Nat} {cs : List Value} {a b : Int} {p : List MemPlace} (h : DataW.trod (fun _ => ()) Tryd.prog W 0 (fun _ => true) false fuel 92 cs = some (.agg [.lit (.int .i64 a), .lit (.int .i64 b)], p)) : cs = [.int .i64 a, .int .i64 b] := by
  obtain ⟨y0, y1, n, hx, hl, f0, f1⟩ := trod_struct2 Tryd.underlying92 h
  rw [show Tryd.prog.cellsOf 92 = 2 by kernel_rfl] at hl
  match cs, hl with
  | [c0, c1], _ =>
    have h2 : Tryd.prog.cellsOf 3 = 1 := by kernel_rfl
    simp only [h2, List.drop_zero, List.drop_succ_cons, List.take_succ_cons, List.take_zero] at f0 f1
    obtain ⟨u, e0, d0, _⟩ := DataW.trod_int Tryd.underlying3 f0
    obtain ⟨v, e1, d1, _⟩ := DataW.trod_int Tryd.underlying3 f1
    simp only [List.cons.injEq, and_true] at e0 e1
    simp only [Prod.mk.injEq, DataW.agg.injEq, List.cons.injEq, and_true] at hx
    rw [d0, d1] at hx
    simp at hx
    rw [e0, e1, hx.1.1, hx.1.2]
theorem vars_of {W : World} (h : laidMetH Tryd.prog laidD W) : VarsAt W := by
  rw [MakeChecks.laidMetH_plain _ _ _ (by kernel_rfl)] at h
  obtain ⟨ps, ⟨g0, t0, cs0, f0, p0, q0, hg0, ht0, hv0, hd0, ⟨g1, t1, cs1, f1, p1, q1, hg1, ht1, hv1, hd1, _, _⟩, _⟩, _, _⟩ := h
  obtain rfl := Option.some.inj (gGate.symm.trans hg0)
  obtain rfl := Option.some.inj (gBoom.symm.trans hg1)
  obtain rfl := Option.some.inj (tGate.symm.trans ht0)
  obtain rfl := Option.some.inj (tBoom.symm.trans ht1)
  have e0 := node_laid hd0
  have e1 := node_laid hd1
  obtain rfl : cs0 = #[.int .i64 0, .int .i64 0] := by cases cs0; simpa using e0
  obtain rfl : cs1 = #[.int .i64 3, .int .i64 0] := by cases cs1; simpa using e1
  exact ⟨World.var?_cell hg0 hv0 0, World.var?_cell hg0 hv0 1, World.var?_cell hg1 hv1 0, World.var?_cell hg1 hv1 1⟩
theorem door_metD (os : Os) (args : Array Value) : laidMetH Tryd.prog laidD ((World.doorLaid Tryd.prog 400 os).forCall (fun _ _ => 0) ⟨#[], args, []⟩).memory :=
  laidMetH_of_parts3 (fuel := 8) (laidMet_of_run' 8 (by kernel_rfl) (by kernel_rfl)) (by kernel_rfl) (by kernel_rfl)
end Go.Proofs.YtcbhnhoicecnnaaDoor.Hand
