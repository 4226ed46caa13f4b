/- The row of CheckPlanned: arguments opened to numbers, the function's contract, and the plain law. Written by a program of the session's. -/
import Derived.Test.YtmgdidhhgdpobaaRows
import Derived.Test.YtmgdidhhgdpobaaPureCheckPlanned
import Derived.WalkKit
import Derived.ProofKit
import Derived.OpenShut
import Derived.ShutString
import Derived.ChangeOld
import Derived.Below
import Derived.SizedLaws
import Derived.Carry
namespace Go.Proofs.Ytmgdidhhgdpobaa.checkPlanned
open Go.ChangeShapes Go.WideShapes Go.ChangeAt Go.RowKit
set_option linter.unusedVariables false
theorem own : ownKnob Try.prog.godebug = none := by kernel_rfl
theorem laidOut : laidOutB Try.prog = true := by kernel_rfl
section
variable {H : Type} {enc : TypeId × Value → H} {P : Program} {w : World} {base : Nat} {spare : Nat → Bool} {held : Bool} {fuel : Nat} {t : TypeId} {cs : List Value} {x : DataW H × List MemPlace}
theorem part_struct {fs : Array Field} (ht : P.underlying t = some (.struct fs)) (h : DataW.trod enc P w base spare held fuel t cs = some x) :
    ∃ (xs : List (DataW H × List MemPlace)) (n : Nat), cs.length = P.cellsOf t ∧ xs.length = fs.size ∧
      ∀ (i : Nat) (f : Field), fs[i]? = some f → DataW.trod enc P w base spare held n f.type ((cs.drop f.offset).take (P.cellsOf f.type)) = xs[i]? := by
  obtain ⟨xs, n, _, _, h1, h2, h3⟩ := DataW.trod_struct ht h
  exact ⟨xs, n, h1, h2, h3⟩
theorem part_array {n : Nat} {e : TypeId} (ht : P.underlying t = some (.array n e)) (h : DataW.trod enc P w base spare held fuel t cs = some x) :
    ∃ (xs : List (DataW H × List MemPlace)) (m : Nat), cs.length = P.cellsOf t ∧ xs.length = n ∧
      ∀ (i : Nat), i < n → DataW.trod enc P w base spare held m e ((cs.drop (i * P.cellsOf e)).take (P.cellsOf e)) = xs[i]? := by
  cases fuel with
  | zero => simp [DataW.trod] at h
  | succ m =>
    unfold DataW.trod at h
    rw [ht] at h
    split at h <;> simp_all
    obtain ⟨hl, xs, hp, hd⟩ := h
    exact ⟨xs, by simpa using mapM_some_length hp, m, fun i hi => by simpa using mapM_some_get hp i i (by simp [hi])⟩
end
theorem list2 (cs : List Value) (h : cs.length = 2) : ∃ c0 c1, cs = [c0, c1] := match cs, h with | [c0, c1], _ => ⟨c0, c1, rfl⟩
theorem list7 (cs : List Value) (h : cs.length = 7) : ∃ c0 c1 c2 c3 c4 c5 c6, cs = [c0, c1, c2, c3, c4, c5, c6] := match cs, h with | [c0, c1, c2, c3, c4, c5, c6], _ => ⟨c0, c1, c2, c3, c4, c5, c6, rfl⟩
theorem openT27 {H : Type} {enc : TypeId × Value → H} {W : World} {base : Nat} {spare : Nat → Bool} {held : Bool} {fuel : Nat} {cs : List Value} {x : DataW H × List MemPlace} (h : DataW.trod enc Try.prog W base spare held fuel 27 cs = some x) :
    ∃ a0 a1 : Int, cs = [.int .i64 a0, .int .i64 a1] ∧ (Lit.int .i64 a0).wf = true ∧ (Lit.int .i64 a1).wf = true := by
  obtain ⟨xs, n, hl, hxl, hf⟩ := part_struct Try.underlying27 h
  rw [show Try.prog.cellsOf 27 = 2 by kernel_rfl] at hl
  obtain ⟨c0, c1, rfl⟩ := list2 cs hl
  have f0 : DataW.trod enc Try.prog W base spare held n 2 (([c0, c1].drop (0)).take (Try.prog.cellsOf 2)) = xs[0]? := hf 0 _ rfl
  obtain ⟨y0, hy0⟩ : ∃ y, xs[0]? = some y := ⟨_, List.getElem?_eq_getElem (by rw [hxl]; decide)⟩
  rw [hy0] at f0
  obtain ⟨b0, e0, _, w0⟩ := DataW.trod_int Try.underlying2 f0
  have e0' : [c0] = [.int .i64 b0] := by rw [show Try.prog.cellsOf 2 = 1 by kernel_rfl] at e0; exact e0
  simp only [List.cons.injEq, and_true] at e0'
  have g0 := e0'
  have f1 : DataW.trod enc Try.prog W base spare held n 2 (([c0, c1].drop (1)).take (Try.prog.cellsOf 2)) = xs[1]? := hf 1 _ rfl
  obtain ⟨y1, hy1⟩ : ∃ y, xs[1]? = some y := ⟨_, List.getElem?_eq_getElem (by rw [hxl]; decide)⟩
  rw [hy1] at f1
  obtain ⟨b1, e1, _, w1⟩ := DataW.trod_int Try.underlying2 f1
  have e1' : [c1] = [.int .i64 b1] := by rw [show Try.prog.cellsOf 2 = 1 by kernel_rfl] at e1; exact e1
  simp only [List.cons.injEq, and_true] at e1'
  have g1 := e1'
  exact ⟨b0, b1, by rw [g0, g1], w0, w1⟩
theorem openT46 {H : Type} {enc : TypeId × Value → H} {W : World} {base : Nat} {spare : Nat → Bool} {held : Bool} {fuel : Nat} {cs : List Value} {x : DataW H × List MemPlace} (h : DataW.trod enc Try.prog W base spare held fuel 46 cs = some x) :
    ∃ a0 a1 a2 a3 a4 a5 a6 : Int, cs = [.int .i64 a0, .int .i64 a1, .int .i64 a2, .int .i64 a3, .int .i64 a4, .int .i64 a5, .int .i64 a6] ∧ (Lit.int .i64 a0).wf = true ∧ (Lit.int .i64 a1).wf = true ∧ (Lit.int .i64 a2).wf = true ∧ (Lit.int .i64 a3).wf = true ∧ (Lit.int .i64 a4).wf = true ∧ (Lit.int .i64 a5).wf = true ∧ (Lit.int .i64 a6).wf = true := by
  obtain ⟨xs, n, hl, hxl, hf⟩ := part_struct Try.underlying46 h
  rw [show Try.prog.cellsOf 46 = 7 by kernel_rfl] at hl
  obtain ⟨c0, c1, c2, c3, c4, c5, c6, rfl⟩ := list7 cs hl
  have f0 : DataW.trod enc Try.prog W base spare held n 3 (([c0, c1, c2, c3, c4, c5, c6].drop (0)).take (Try.prog.cellsOf 3)) = xs[0]? := hf 0 _ rfl
  obtain ⟨y0, hy0⟩ : ∃ y, xs[0]? = some y := ⟨_, List.getElem?_eq_getElem (by rw [hxl]; decide)⟩
  rw [hy0] at f0
  obtain ⟨b0, e0, _, w0⟩ := DataW.trod_int Try.underlying3 f0
  have e0' : [c0] = [.int .i64 b0] := by rw [show Try.prog.cellsOf 3 = 1 by kernel_rfl] at e0; exact e0
  simp only [List.cons.injEq, and_true] at e0'
  have g0 := e0'
  have f1 : DataW.trod enc Try.prog W base spare held n 3 (([c0, c1, c2, c3, c4, c5, c6].drop (1)).take (Try.prog.cellsOf 3)) = xs[1]? := hf 1 _ rfl
  obtain ⟨y1, hy1⟩ : ∃ y, xs[1]? = some y := ⟨_, List.getElem?_eq_getElem (by rw [hxl]; decide)⟩
  rw [hy1] at f1
  obtain ⟨b1, e1, _, w1⟩ := DataW.trod_int Try.underlying3 f1
  have e1' : [c1] = [.int .i64 b1] := by rw [show Try.prog.cellsOf 3 = 1 by kernel_rfl] at e1; exact e1
  simp only [List.cons.injEq, and_true] at e1'
  have g1 := e1'
  have f2 : DataW.trod enc Try.prog W base spare held n 3 (([c0, c1, c2, c3, c4, c5, c6].drop (2)).take (Try.prog.cellsOf 3)) = xs[2]? := hf 2 _ rfl
  obtain ⟨y2, hy2⟩ : ∃ y, xs[2]? = some y := ⟨_, List.getElem?_eq_getElem (by rw [hxl]; decide)⟩
  rw [hy2] at f2
  obtain ⟨b2, e2, _, w2⟩ := DataW.trod_int Try.underlying3 f2
  have e2' : [c2] = [.int .i64 b2] := by rw [show Try.prog.cellsOf 3 = 1 by kernel_rfl] at e2; exact e2
  simp only [List.cons.injEq, and_true] at e2'
  have g2 := e2'
  have f3 : DataW.trod enc Try.prog W base spare held n 27 (([c0, c1, c2, c3, c4, c5, c6].drop (3)).take (Try.prog.cellsOf 27)) = xs[3]? := hf 3 _ rfl
  obtain ⟨y3, hy3⟩ : ∃ y, xs[3]? = some y := ⟨_, List.getElem?_eq_getElem (by rw [hxl]; decide)⟩
  rw [hy3] at f3
  obtain ⟨b3, b4, e3, w3, w4⟩ := openT27 f3
  have e3' : [c3, c4] = [.int .i64 b3, .int .i64 b4] := by rw [show Try.prog.cellsOf 27 = 2 by kernel_rfl] at e3; exact e3
  simp only [List.cons.injEq, and_true] at e3'
  obtain ⟨g3, g4⟩ := e3'
  have f4 : DataW.trod enc Try.prog W base spare held n 27 (([c0, c1, c2, c3, c4, c5, c6].drop (5)).take (Try.prog.cellsOf 27)) = xs[4]? := hf 4 _ rfl
  obtain ⟨y4, hy4⟩ : ∃ y, xs[4]? = some y := ⟨_, List.getElem?_eq_getElem (by rw [hxl]; decide)⟩
  rw [hy4] at f4
  obtain ⟨b5, b6, e4, w5, w6⟩ := openT27 f4
  have e4' : [c5, c6] = [.int .i64 b5, .int .i64 b6] := by rw [show Try.prog.cellsOf 27 = 2 by kernel_rfl] at e4; exact e4
  simp only [List.cons.injEq, and_true] at e4'
  obtain ⟨g5, g6⟩ := e4'
  exact ⟨b0, b1, b2, b3, b4, b5, b6, by rw [g0, g1, g2, g3, g4, g5, g6], w0, w1, w2, w3, w4, w5, w6⟩
set_option maxRecDepth 100000 in
theorem lifted (os : Os) (started : os.Started) (H : Type) (enc : TypeId × Value → H) :
    ReturnsInHanded {} Try.checked os 13 .any (Rows.checkPlannedSpec.pre6 enc Try.prog Try.f13 Rows.checkPlannedRow.domain false) (Rows.checkPlannedSpec.post enc Try.prog Try.f13 false true false false) := by
  refine returnsInHanded_of_change_sized (C := Try.checked) own started (by kernel_rfl) Try.func13
    (ChangeSpec.witness6 (enc := enc) (C := Try.checked) false ⟨#[], #[.agg #[.int .i64 0, .int .i64 0, .int .i64 0, .int .i64 0, .int .i64 0, .int .i64 0, .int .i64 0], .int .u8 0, .int .u8 0, .int .u8 0, .int .u8 0], []⟩ 8 (by kernel_rfl) (by kernel_rfl) (by kernel_rfl) (by kernel_rfl)) ?_
  intro W base args ds gs before hval0 hW hcnd hsz0 _
  have hval : ∀ (j : Nat) t v, Try.f13.params[j]? = some t → args[j]? = some v → Value.okWide Try.prog W .any base t v := hval0
  have hW' := hW
  obtain ⟨p, q, hA0, hV, rfl, hfz, hnd⟩ := hW
  have hA : DataW.TrodAll enc Try.prog W 0 (fun _ => true) true Try.f13.params.toList args.toList ds p := hA0
  rw [Try.params13] at hA hval
  obtain ⟨v0, vs0, d0, ds0, p0, q0, hargs, rfl, rfl, h0, r0⟩ := trodAll_cons hA
  obtain ⟨v1, vs1, d1, ds1, p1, q1, rfl, rfl, rfl, h1, r1⟩ := trodAll_cons r0
  obtain ⟨v2, vs2, d2, ds2, p2, q2, rfl, rfl, rfl, h2, r2⟩ := trodAll_cons r1
  obtain ⟨v3, vs3, d3, ds3, p3, q3, rfl, rfl, rfl, h3, r3⟩ := trodAll_cons r2
  obtain ⟨v4, vs4, d4, ds4, p4, q4, rfl, rfl, rfl, h4, r4⟩ := trodAll_cons r3
  obtain ⟨rfl, rfl, rfl⟩ := trodAll_nil r4
  obtain rfl : args = #[v0, v1, v2, v3, v4] := by cases args; simp_all
  obtain ⟨rfl, rfl⟩ := trodVars_none hV
  obtain ⟨cs0, rfl⟩ : ∃ cs, v0 = .agg cs := by have h := (hval 0 46 v0 rfl rfl); unfold Value.okWide at h; simp only [Try.underlying46] at h; obtain ⟨cs, h1, _⟩ := h; exact ⟨cs, h1⟩
  have k0 := h0
  have lt0 : ∀ x ∈ p0, x.block < W.heap.size := by obtain ⟨m, hm⟩ := k0; exact DataW.trod_lt m _ _ _ hm
  obtain ⟨fuel0, hf0⟩ := h0
  obtain ⟨a0_0, a0_1, a0_2, a0_3, a0_4, a0_5, a0_6, e0, w0_0, w0_1, w0_2, w0_3, w0_4, w0_5, w0_6⟩ := openT46 hf0
  obtain rfl : cs0 = #[.int .i64 a0_0, .int .i64 a0_1, .int .i64 a0_2, .int .i64 a0_3, .int .i64 a0_4, .int .i64 a0_5, .int .i64 a0_6] := by cases cs0; simp only [Value.cells] at e0; rw [e0]
  obtain ⟨a1, rfl, rfl, rfl, w1⟩ := open_int Try.underlying5 (hval 1 5 v1 rfl rfl) h1
  obtain ⟨a2, rfl, rfl, rfl, w2⟩ := open_int Try.underlying5 (hval 2 5 v2 rfl rfl) h2
  obtain ⟨a3, rfl, rfl, rfl, w3⟩ := open_int Try.underlying5 (hval 3 5 v3 rfl rfl) h3
  obtain ⟨a4, rfl, rfl, rfl, w4⟩ := open_int Try.underlying5 (hval 4 5 v4 rfl rfl) h4
  clear hA0 hval0 hsz0
  have hP := Pure.CheckPlanned a0_0 a0_1 a0_2 a0_3 a0_4 a0_5 a0_6 a1 a2 a3 a4 w0_0 w0_1 w0_2 w0_3 w0_4 w0_5 w0_6 w1 w2 w3 w4
  refine (Ppl.peaveylaw10_CheckPlanned.calls a0_0 a0_1 a0_2 a0_3 a0_4 a0_5 a0_6 a1 a2 a3 a4 true W hP).mono fun e W' ⟨he, bel⟩ => ?_
  subst he
  exact ⟨_, rfl, _, _, _, [], _, [], hW', trodAll_mk1 (shut_bool Try.underlying4 _), (trodAll_cons_mk (Below.trod laidOut (by kernel_rfl) (of_decide_eq_true (by kernel_rfl)) k0 bel lt0) (trodAll_cons_mk (shut_int Try.underlying5 w1) (trodAll_cons_mk (shut_int Try.underlying5 w2) (trodAll_cons_mk (shut_int Try.underlying5 w3) (trodAll_cons_mk (shut_int Try.underlying5 w4) trodAll_mk0))))), rfl, bel.frame _, fun h => by cases h⟩
theorem over : Rows.checkPlannedRow.holds Try.pinned (OpenSpec.ofChange Rows.checkPlannedSpec) :=
  OpenClaim.holds_of_wide 13 Try.f13 rfl rfl rfl rfl rfl rfl rfl ⟨rfl, rfl, rfl, rfl, rfl⟩ rfl rfl rfl rfl rfl (by kernel_rfl) Try.func13 (by kernel_rfl)
    (of_decide_eq_true (by kernel_rfl)) (by unfold Func.isWrapper; first | (rw [if_pos (by decide +kernel)]; kernel_rfl) | (rw [if_neg (by decide +kernel)]; exact ⟨rfl, rfl⟩))
    (fun os started H enc _ => lifted os started H enc)
theorem proved : Rows.CheckPlannedSaid := over
#print axioms proved
end Go.Proofs.Ytmgdidhhgdpobaa.checkPlanned
namespace Go.Proofs.Ytmgdidhhgdpobaa
/-- The row, under a short name, for the claim. -/
theorem checkPlanned_holds : Rows.CheckPlannedSaid := checkPlanned.proved
end Go.Proofs.Ytmgdidhhgdpobaa
