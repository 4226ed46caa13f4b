/- Keys that are a struct of one number. -/
import Derived.Test.YtmgdidhhgdpobaaProg
import Derived.WalkKit
import Derived.DeepKeys4
import Derived.Maps.RangeWalk
import Derived.Maps.OwnSet
namespace Go.Proofs.Ytmgdidhhgdpobaa.Hand
open Go.RowKit Go.Maps

theorem laidOut : laidOutB Try.prog = true := by kernel_rfl
theorem kind_law : Keyed Try.prog 88 := Keyed.of_law (deep_law_laid laidOut (m := 3) (by omega) (of_decide_eq_true (by kernel_rfl)) (by kernel_rfl) (by kernel_rfl))
def kindKey (x : Int) : Lit := .string (keyBytes [.int .i64 x])
theorem kind_desc : (match Try.prog.underlying 88 with | some (.struct fs) => fs.size == 1 && (match fs[0]? with | some f => f.type == 3 && f.offset == 0 && f.name != "_" | _ => false) | _ => false) = true := by kernel_rfl
theorem kind_fields : ∃ f : Field, Try.prog.underlying 88 = some (.struct #[f]) ∧ f.type = 3 ∧ f.offset = 0 ∧ (f.name != "_") = true := by
  have h := kind_desc
  split at h
  · rename_i fs he
    rw [Bool.and_eq_true] at h
    obtain ⟨h1, h2⟩ := h
    have hs : fs.size = 1 := by simpa using h1
    split at h2
    · rename_i f hf
      simp only [Bool.and_eq_true, beq_iff_eq] at h2
      refine ⟨f, ?_, h2.1.1, h2.1.2, h2.2⟩
      have ha : fs = #[f] := by
        apply Array.ext
        · simpa using hs
        · intro i h1 h2
          have : i = 0 := by omega
          subst this
          simpa [Array.getElem?_eq_getElem h1] using hf
      exact he.trans (congrArg (fun a => some (TypeDesc.struct a)) ha)
    · cases h2
  · cases h
theorem kind_size : Try.prog.cellsOf 88 = 1 := by kernel_rfl
theorem kind_int_size : Try.prog.cellsOf 3 = 1 := by kernel_rfl
theorem kind_type : Try.prog.keyType 88 = true := by kernel_rfl
theorem kind_many : ∃ n, Try.prog.types.size = n + 1 := ⟨Try.prog.types.size - 1, by have : 88 < Try.prog.types.size := of_decide_eq_true (by kernel_rfl); omega⟩
theorem kind_lits (d : Nat) (cs : List Value) (ls : List Lit) : Try.prog.keyLits (d + 2) 88 cs = some ls ↔ ∃ x, cs = [.int .i64 x] ∧ (Lit.int .i64 x).wf = true ∧ ls = [.int .i64 x] := by
  obtain ⟨f, hf, ht, ho, hn⟩ := kind_fields
  unfold Program.keyLits
  rw [hf]
  simp only [kind_size]
  by_cases hl : cs.length = 1
  · obtain ⟨c, rfl⟩ := List.length_eq_one_iff.1 hl
    have hi : Try.prog.underlying 3 = some (.int .i64) := Try.underlying3
    simp only [hn, ht, ho, kind_int_size, List.length_cons, List.length_nil, Array.all_eq_true]
    simp [hn, ht, ho, kind_int_size]
    unfold Program.keyLits
    rw [hi]
    cases c <;> simp
    rename_i q a
    constructor
    · intro h
      by_cases hc : q = .i64 ∧ (Lit.int .i64 a).wf = true
      · obtain ⟨rfl, hw⟩ := hc
        simp [hw] at h
        exact ⟨_, ⟨rfl, rfl⟩, hw, h.symm⟩
      · simp [hc] at h
    · rintro ⟨x, ⟨rfl, rfl⟩, hw, rfl⟩
      simp [hw]
  · simp [hl]
    intro x hx
    subst hx
    simp at hl
theorem kind_key {x : Int} (hw : (Lit.int .i64 x).wf = true) : keyOf Try.prog 88 (.agg #[.int .i64 x]) = some (kindKey x) := by
  obtain ⟨f, hf, _⟩ := kind_fields
  obtain ⟨n, hn⟩ := kind_many
  have hl := (kind_lits n [.int .i64 x] [.int .i64 x]).2 ⟨x, rfl, hw, rfl⟩
  unfold keyOf
  rw [hf]
  simp [kind_type, Value.formed, hf, kind_size, hn, Value.cells, hl, kindKey]
theorem kind_inv {v : Value} {l : Lit} (h : keyOf Try.prog 88 v = some l) : ∃ x, v = .agg #[.int .i64 x] ∧ (Lit.int .i64 x).wf = true ∧ l = kindKey x := by
  obtain ⟨f, hf, _⟩ := kind_fields
  obtain ⟨n, hn⟩ := kind_many
  unfold keyOf at h
  rw [hf] at h
  simp only [kind_type, Bool.true_and] at h
  split at h
  · rename_i hfm
    obtain ⟨ls, hls, rfl⟩ := Option.map_eq_some_iff.1 h
    rw [hn] at hls
    obtain ⟨x, hx, hw, rfl⟩ := (kind_lits n _ _).1 hls
    cases v
    case agg cs =>
      refine ⟨x, ?_, hw, rfl⟩
      exact congrArg Value.agg (Array.ext' (by simpa [Value.cells] using hx))
    all_goals (simp [Value.formed, hf] at hfm)
  · cases h
theorem kindKey_inj {x y : Int} (hx : (Lit.int .i64 x).wf = true) (hy : (Lit.int .i64 y).wf = true) (h : kindKey x = kindKey y) : x = y := by
  have h1 := kind_key hx
  have h2 := kind_key hy
  rw [h] at h1
  have := kind_law.inj h1 h2
  simpa using this
theorem kindKey_is (x : Int) (hx : (Lit.int .i64 x).wf = true) : WideAt.IsKeyLit (kindKey x) := kind_law.key (kind_key hx)
end Go.Proofs.Ytmgdidhhgdpobaa.Hand
