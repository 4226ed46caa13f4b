/-
  No cell of these rows narrows 'for every input' (looked for: loops, veiled, ifaces, maps, wideKeys, modest, calm, conditions, laid).
  DERIVED. THE GIVEN ROWS OF THIS SEAT. 14 by the template 'for every input the law returns true; each argument reads behind the call as it read before'; 0 by the template 'total and deterministic' (their statements: YtbhcchhhpmlpmaaTotals.lean).
  GIVEN WITH THE SEED: the statements are not yours to turn. If you find one false, say at which input.
  Laid BY PROGRAM, IN A SANDBOX (cutbox-rows.mjs): the forced cells as the released guide's own fill.sh prints them over the translation b04e769c83a798a4… (all of the seat's roots in one cut). By AI agents, Wed Nov 11 2026. No macro, syntax, notation, axiom, sorry.
-/
import Derived.Test.YtbhcchhhpmlpmaaChecked
import GoSem.Claim
import GoSem.ClaimJoined
import GoSem.ClaimMapViews
import Derived.JoinedTies
import Derived.KernelRfl
namespace Go.Proofs.Ytbhcchhhpmlpmaa
/- THE CELL 'sum', in the pinned program and in every row, IS THE sha256 OF THE DUMP (.gsa) THAT YtbhcchhhpmlpmaaProg.lean LOADS. Nothing in Lean hashes anything: it is a label: what it is worth is what the hold of that sum in a sandbox is worth. -/
noncomputable def Try.pinned : Pinned := { name := "ytbhcchhhpmlpmaa", sum := "b04e769c83a798a4fc6892eb7e1e0d941ffca4b6dbadd012091e6f6e6a43c14d", checked := Try.checked }
namespace Rows
def none {H : Type} : Left H := { results := [], args := [] }

/-- 'peaveylaw01.MarkOffices': WHATEVER THE INPUT: true; the input reads as it did. -/
def markOfficesSpec : ChangeSpec := { name := "markOffices", fn := fun _ => fun
  | [d1, d2] => { results := [.lit (.bool true)], args := [d1, d2] }
  | _ => none }
def markOfficesRow : OpenClaim := { program := "ytbhcchhhpmlpmaa", sum := "b04e769c83a798a4fc6892eb7e1e0d941ffca4b6dbadd012091e6f6e6a43c14d", func := "peavey/peaveylaw01.MarkOffices", spec := "markOffices", unfollowed := true, recurses := true, plainKeys := false, apart := false }
def MarkOfficesSaid : Prop := markOfficesRow.holds Try.pinned (OpenSpec.ofChange markOfficesSpec)

/-- ITS FALSE NEIGHBOUR: 'it returns false'. Refute it at one input. -/
def markOfficesWrong : ChangeSpec := { name := "markOffices", fn := fun _ => fun
  | [d1, d2] => { results := [.lit (.bool false)], args := [d1, d2] }
  | _ => none }
def MarkOfficesWrongFalsely : Prop := markOfficesRow.holds Try.pinned (OpenSpec.ofChange markOfficesWrong)

/-- 'peaveylaw01.MarkClashes': WHATEVER THE INPUT: true; the input reads as it did. -/
def markClashesSpec : ChangeSpec := { name := "markClashes", fn := fun _ => fun
  | [d1, d2, d3] => { results := [.lit (.bool true)], args := [d1, d2, d3] }
  | _ => none }
def markClashesRow : OpenClaim := { program := "ytbhcchhhpmlpmaa", sum := "b04e769c83a798a4fc6892eb7e1e0d941ffca4b6dbadd012091e6f6e6a43c14d", func := "peavey/peaveylaw01.MarkClashes", spec := "markClashes", unfollowed := true, recurses := true, plainKeys := false, apart := false }
def MarkClashesSaid : Prop := markClashesRow.holds Try.pinned (OpenSpec.ofChange markClashesSpec)

/-- ITS FALSE NEIGHBOUR: 'it returns false'. Refute it at one input. -/
def markClashesWrong : ChangeSpec := { name := "markClashes", fn := fun _ => fun
  | [d1, d2, d3] => { results := [.lit (.bool false)], args := [d1, d2, d3] }
  | _ => none }
def MarkClashesWrongFalsely : Prop := markClashesRow.holds Try.pinned (OpenSpec.ofChange markClashesWrong)

/-- 'peaveylaw01.MarkTolds': WHATEVER THE INPUT: true; the input reads as it did. -/
def markToldsSpec : ChangeSpec := { name := "markTolds", fn := fun _ => fun
  | [d1, d2] => { results := [.lit (.bool true)], args := [d1, d2] }
  | _ => none }
def markToldsRow : OpenClaim := { program := "ytbhcchhhpmlpmaa", sum := "b04e769c83a798a4fc6892eb7e1e0d941ffca4b6dbadd012091e6f6e6a43c14d", func := "peavey/peaveylaw01.MarkTolds", spec := "markTolds", unfollowed := true, recurses := true, plainKeys := false, apart := false }
def MarkToldsSaid : Prop := markToldsRow.holds Try.pinned (OpenSpec.ofChange markToldsSpec)

/-- ITS FALSE NEIGHBOUR: 'it returns false'. Refute it at one input. -/
def markToldsWrong : ChangeSpec := { name := "markTolds", fn := fun _ => fun
  | [d1, d2] => { results := [.lit (.bool false)], args := [d1, d2] }
  | _ => none }
def MarkToldsWrongFalsely : Prop := markToldsRow.holds Try.pinned (OpenSpec.ofChange markToldsWrong)

/-- 'peaveylaw01.MarkFrees': WHATEVER THE INPUT: true; the input reads as it did. -/
def markFreesSpec : ChangeSpec := { name := "markFrees", fn := fun _ => fun
  | [d] => { results := [.lit (.bool true)], args := [d] }
  | _ => none }
def markFreesRow : OpenClaim := { program := "ytbhcchhhpmlpmaa", sum := "b04e769c83a798a4fc6892eb7e1e0d941ffca4b6dbadd012091e6f6e6a43c14d", func := "peavey/peaveylaw01.MarkFrees", spec := "markFrees", unfollowed := true, recurses := true, plainKeys := false, apart := false }
def MarkFreesSaid : Prop := markFreesRow.holds Try.pinned (OpenSpec.ofChange markFreesSpec)

/-- ITS FALSE NEIGHBOUR: 'it returns false'. Refute it at one input. -/
def markFreesWrong : ChangeSpec := { name := "markFrees", fn := fun _ => fun
  | [d] => { results := [.lit (.bool false)], args := [d] }
  | _ => none }
def MarkFreesWrongFalsely : Prop := markFreesRow.holds Try.pinned (OpenSpec.ofChange markFreesWrong)

/-- 'peaveylaw01.MarkFamilies': WHATEVER THE INPUT: true; the input reads as it did. -/
def markFamiliesSpec : ChangeSpec := { name := "markFamilies", fn := fun _ => fun
  | [d1, d2, d3] => { results := [.lit (.bool true)], args := [d1, d2, d3] }
  | _ => none }
def markFamiliesRow : OpenClaim := { program := "ytbhcchhhpmlpmaa", sum := "b04e769c83a798a4fc6892eb7e1e0d941ffca4b6dbadd012091e6f6e6a43c14d", func := "peavey/peaveylaw01.MarkFamilies", spec := "markFamilies", unfollowed := true, recurses := true, plainKeys := false, apart := false }
def MarkFamiliesSaid : Prop := markFamiliesRow.holds Try.pinned (OpenSpec.ofChange markFamiliesSpec)

/-- ITS FALSE NEIGHBOUR: 'it returns false'. Refute it at one input. -/
def markFamiliesWrong : ChangeSpec := { name := "markFamilies", fn := fun _ => fun
  | [d1, d2, d3] => { results := [.lit (.bool false)], args := [d1, d2, d3] }
  | _ => none }
def MarkFamiliesWrongFalsely : Prop := markFamiliesRow.holds Try.pinned (OpenSpec.ofChange markFamiliesWrong)

/-- 'peaveylaw01.MarkEither': WHATEVER THE INPUT: true; the input reads as it did. -/
def markEitherSpec : ChangeSpec := { name := "markEither", fn := fun _ => fun
  | [d1, d2, d3] => { results := [.lit (.bool true)], args := [d1, d2, d3] }
  | _ => none }
def markEitherRow : OpenClaim := { program := "ytbhcchhhpmlpmaa", sum := "b04e769c83a798a4fc6892eb7e1e0d941ffca4b6dbadd012091e6f6e6a43c14d", func := "peavey/peaveylaw01.MarkEither", spec := "markEither", unfollowed := true, recurses := true, plainKeys := false, apart := false }
def MarkEitherSaid : Prop := markEitherRow.holds Try.pinned (OpenSpec.ofChange markEitherSpec)

/-- ITS FALSE NEIGHBOUR: 'it returns false'. Refute it at one input. -/
def markEitherWrong : ChangeSpec := { name := "markEither", fn := fun _ => fun
  | [d1, d2, d3] => { results := [.lit (.bool false)], args := [d1, d2, d3] }
  | _ => none }
def MarkEitherWrongFalsely : Prop := markEitherRow.holds Try.pinned (OpenSpec.ofChange markEitherWrong)

/-- 'peaveylaw01.MarkMargin': WHATEVER THE INPUT: true; the input reads as it did. -/
def markMarginSpec : ChangeSpec := { name := "markMargin", fn := fun _ => fun
  | [d] => { results := [.lit (.bool true)], args := [d] }
  | _ => none }
def markMarginRow : OpenClaim := { program := "ytbhcchhhpmlpmaa", sum := "b04e769c83a798a4fc6892eb7e1e0d941ffca4b6dbadd012091e6f6e6a43c14d", func := "peavey/peaveylaw01.MarkMargin", spec := "markMargin", unfollowed := true, recurses := true, plainKeys := false, apart := false }
def MarkMarginSaid : Prop := markMarginRow.holds Try.pinned (OpenSpec.ofChange markMarginSpec)

/-- ITS FALSE NEIGHBOUR: 'it returns false'. Refute it at one input. -/
def markMarginWrong : ChangeSpec := { name := "markMargin", fn := fun _ => fun
  | [d] => { results := [.lit (.bool false)], args := [d] }
  | _ => none }
def MarkMarginWrongFalsely : Prop := markMarginRow.holds Try.pinned (OpenSpec.ofChange markMarginWrong)

/-- 'peaveylaw01.MarkFree': WHATEVER THE INPUT: true; the input reads as it did. -/
def markFreeSpec : ChangeSpec := { name := "markFree", fn := fun _ => fun
  | [d1, d2, d3] => { results := [.lit (.bool true)], args := [d1, d2, d3] }
  | _ => none }
def markFreeRow : OpenClaim := { program := "ytbhcchhhpmlpmaa", sum := "b04e769c83a798a4fc6892eb7e1e0d941ffca4b6dbadd012091e6f6e6a43c14d", func := "peavey/peaveylaw01.MarkFree", spec := "markFree", unfollowed := true, recurses := true, plainKeys := false, apart := false }
def MarkFreeSaid : Prop := markFreeRow.holds Try.pinned (OpenSpec.ofChange markFreeSpec)

/-- ITS FALSE NEIGHBOUR: 'it returns false'. Refute it at one input. -/
def markFreeWrong : ChangeSpec := { name := "markFree", fn := fun _ => fun
  | [d1, d2, d3] => { results := [.lit (.bool false)], args := [d1, d2, d3] }
  | _ => none }
def MarkFreeWrongFalsely : Prop := markFreeRow.holds Try.pinned (OpenSpec.ofChange markFreeWrong)

/-- 'peaveylaw01.MarkTold': WHATEVER THE INPUT: true; the input reads as it did. -/
def markToldSpec : ChangeSpec := { name := "markTold", fn := fun _ => fun
  | [d1, d2, d3] => { results := [.lit (.bool true)], args := [d1, d2, d3] }
  | _ => none }
def markToldRow : OpenClaim := { program := "ytbhcchhhpmlpmaa", sum := "b04e769c83a798a4fc6892eb7e1e0d941ffca4b6dbadd012091e6f6e6a43c14d", func := "peavey/peaveylaw01.MarkTold", spec := "markTold", unfollowed := true, recurses := true, plainKeys := false, apart := false }
def MarkToldSaid : Prop := markToldRow.holds Try.pinned (OpenSpec.ofChange markToldSpec)

/-- ITS FALSE NEIGHBOUR: 'it returns false'. Refute it at one input. -/
def markToldWrong : ChangeSpec := { name := "markTold", fn := fun _ => fun
  | [d1, d2, d3] => { results := [.lit (.bool false)], args := [d1, d2, d3] }
  | _ => none }
def MarkToldWrongFalsely : Prop := markToldRow.holds Try.pinned (OpenSpec.ofChange markToldWrong)

/-- 'peaveylaw01.MarkKept': WHATEVER THE INPUT: true; the input reads as it did. -/
def markKeptSpec : ChangeSpec := { name := "markKept", fn := fun _ => fun
  | [d1, d2, d3] => { results := [.lit (.bool true)], args := [d1, d2, d3] }
  | _ => none }
def markKeptRow : OpenClaim := { program := "ytbhcchhhpmlpmaa", sum := "b04e769c83a798a4fc6892eb7e1e0d941ffca4b6dbadd012091e6f6e6a43c14d", func := "peavey/peaveylaw01.MarkKept", spec := "markKept", unfollowed := true, recurses := true, plainKeys := false, apart := false }
def MarkKeptSaid : Prop := markKeptRow.holds Try.pinned (OpenSpec.ofChange markKeptSpec)

/-- ITS FALSE NEIGHBOUR: 'it returns false'. Refute it at one input. -/
def markKeptWrong : ChangeSpec := { name := "markKept", fn := fun _ => fun
  | [d1, d2, d3] => { results := [.lit (.bool false)], args := [d1, d2, d3] }
  | _ => none }
def MarkKeptWrongFalsely : Prop := markKeptRow.holds Try.pinned (OpenSpec.ofChange markKeptWrong)

/-- 'peaveylaw01.MarkFamily': WHATEVER THE INPUT: true; the input reads as it did. -/
def markFamilySpec : ChangeSpec := { name := "markFamily", fn := fun _ => fun
  | [d1, d2, d3] => { results := [.lit (.bool true)], args := [d1, d2, d3] }
  | _ => none }
def markFamilyRow : OpenClaim := { program := "ytbhcchhhpmlpmaa", sum := "b04e769c83a798a4fc6892eb7e1e0d941ffca4b6dbadd012091e6f6e6a43c14d", func := "peavey/peaveylaw01.MarkFamily", spec := "markFamily", unfollowed := true, recurses := true, plainKeys := false, apart := false }
def MarkFamilySaid : Prop := markFamilyRow.holds Try.pinned (OpenSpec.ofChange markFamilySpec)

/-- ITS FALSE NEIGHBOUR: 'it returns false'. Refute it at one input. -/
def markFamilyWrong : ChangeSpec := { name := "markFamily", fn := fun _ => fun
  | [d1, d2, d3] => { results := [.lit (.bool false)], args := [d1, d2, d3] }
  | _ => none }
def MarkFamilyWrongFalsely : Prop := markFamilyRow.holds Try.pinned (OpenSpec.ofChange markFamilyWrong)

/-- 'peaveylaw01.MarkLost': WHATEVER THE INPUT: true; the input reads as it did. -/
def markLostSpec : ChangeSpec := { name := "markLost", fn := fun _ => fun
  | [d1, d2, d3] => { results := [.lit (.bool true)], args := [d1, d2, d3] }
  | _ => none }
def markLostRow : OpenClaim := { program := "ytbhcchhhpmlpmaa", sum := "b04e769c83a798a4fc6892eb7e1e0d941ffca4b6dbadd012091e6f6e6a43c14d", func := "peavey/peaveylaw01.MarkLost", spec := "markLost", unfollowed := true, recurses := true, plainKeys := false, apart := false }
def MarkLostSaid : Prop := markLostRow.holds Try.pinned (OpenSpec.ofChange markLostSpec)

/-- ITS FALSE NEIGHBOUR: 'it returns false'. Refute it at one input. -/
def markLostWrong : ChangeSpec := { name := "markLost", fn := fun _ => fun
  | [d1, d2, d3] => { results := [.lit (.bool false)], args := [d1, d2, d3] }
  | _ => none }
def MarkLostWrongFalsely : Prop := markLostRow.holds Try.pinned (OpenSpec.ofChange markLostWrong)

/-- 'peaveylaw01.MarkNamed': WHATEVER THE INPUT: true; the input reads as it did. -/
def markNamedSpec : ChangeSpec := { name := "markNamed", fn := fun _ => fun
  | [d1, d2, d3, d4] => { results := [.lit (.bool true)], args := [d1, d2, d3, d4] }
  | _ => none }
def markNamedRow : OpenClaim := { program := "ytbhcchhhpmlpmaa", sum := "b04e769c83a798a4fc6892eb7e1e0d941ffca4b6dbadd012091e6f6e6a43c14d", func := "peavey/peaveylaw01.MarkNamed", spec := "markNamed", unfollowed := true, recurses := true, plainKeys := false, apart := false }
def MarkNamedSaid : Prop := markNamedRow.holds Try.pinned (OpenSpec.ofChange markNamedSpec)

/-- ITS FALSE NEIGHBOUR: 'it returns false'. Refute it at one input. -/
def markNamedWrong : ChangeSpec := { name := "markNamed", fn := fun _ => fun
  | [d1, d2, d3, d4] => { results := [.lit (.bool false)], args := [d1, d2, d3, d4] }
  | _ => none }
def MarkNamedWrongFalsely : Prop := markNamedRow.holds Try.pinned (OpenSpec.ofChange markNamedWrong)

/-- 'peaveylaw01.MarkKnown': WHATEVER THE INPUT: true; the input reads as it did. -/
def markKnownSpec : ChangeSpec := { name := "markKnown", fn := fun _ => fun
  | [] => { results := [.lit (.bool true)], args := [] }
  | _ => none }
def markKnownRow : OpenClaim := { program := "ytbhcchhhpmlpmaa", sum := "b04e769c83a798a4fc6892eb7e1e0d941ffca4b6dbadd012091e6f6e6a43c14d", func := "peavey/peaveylaw01.MarkKnown", spec := "markKnown", unfollowed := true, recurses := true, plainKeys := false, apart := false }
def MarkKnownSaid : Prop := markKnownRow.holds Try.pinned (OpenSpec.ofChange markKnownSpec)

/-- ITS FALSE NEIGHBOUR: 'it returns false'. Refute it at one input. -/
def markKnownWrong : ChangeSpec := { name := "markKnown", fn := fun _ => fun
  | [] => { results := [.lit (.bool false)], args := [] }
  | _ => none }
def MarkKnownWrongFalsely : Prop := markKnownRow.holds Try.pinned (OpenSpec.ofChange markKnownWrong)

/- THE SECOND FORM. 'bulk': how many values and letters a reading holds, each counted each time it is reached (what is shared counts as often as it is met; a slice's spare places count too). A statement '..UptoSaid' is the law's where the arguments, and the package variables that the reading takes, are together of bulk at most 1048576: NARROWER than '..Said'. Prove '..Said' where nothing that the law and all that it calls make is longer than what came in: it says more and counts as full. Else prove '..UptoSaid'. A law counts once. -/
mutual
def uptoBulk {H : Type} : DataW H → Nat
  | .lit (.string bytes) => bytes.length + 1
  | .lit _ => 1
  | .nil => 1
  | .ptr d => uptoBulk d + 1
  | .slice elems spare => uptoBulkAll elems + uptoBulkAll spare + 1
  | .agg parts => uptoBulkAll parts + 1
  | .iface _ d => uptoBulk d + 1
  | .map entries => uptoBulkEntries entries + 1
  | .held _ => 1
def uptoBulkAll {H : Type} : List (DataW H) → Nat
  | [] => 0
  | d :: r => uptoBulk d + uptoBulkAll r
def uptoBulkEntries {H : Type} : List (Lit × DataW H) → Nat
  | [] => 0
  | x :: r => uptoBulkEntry x + uptoBulkEntries r
def uptoBulkEntry {H : Type} : Lit × DataW H → Nat
  | (.string bytes, d) => bytes.length + uptoBulk d + 1
  | (_, d) => uptoBulk d + 1
 end
def uptoSmall : (H : Type) → List (DataW H) → Bool := fun _ ds => decide (uptoBulkAll ds ≤ 1048576)
def OpenSpec.upto (s : _root_.Go.ChangeSpec) : _root_.Go.OpenSpec := { _root_.Go.OpenSpec.ofChange s with cond := some uptoSmall }

/-- 'peaveylaw01.MarkOffices', WHERE WHAT IT READS IS OF BULK AT MOST 1048576: true; the input reads as it did. -/
def markOfficesUptoRow : OpenClaim := { program := "ytbhcchhhpmlpmaa", sum := "b04e769c83a798a4fc6892eb7e1e0d941ffca4b6dbadd012091e6f6e6a43c14d", func := "peavey/peaveylaw01.MarkOffices", spec := "markOffices", unfollowed := true, recurses := true, plainKeys := false, apart := false, narrowed := true }
def MarkOfficesUptoSaid : Prop := markOfficesUptoRow.holds Try.pinned (OpenSpec.upto markOfficesSpec)

/-- 'peaveylaw01.MarkClashes', WHERE WHAT IT READS IS OF BULK AT MOST 1048576: true; the input reads as it did. -/
def markClashesUptoRow : OpenClaim := { program := "ytbhcchhhpmlpmaa", sum := "b04e769c83a798a4fc6892eb7e1e0d941ffca4b6dbadd012091e6f6e6a43c14d", func := "peavey/peaveylaw01.MarkClashes", spec := "markClashes", unfollowed := true, recurses := true, plainKeys := false, apart := false, narrowed := true }
def MarkClashesUptoSaid : Prop := markClashesUptoRow.holds Try.pinned (OpenSpec.upto markClashesSpec)

/-- 'peaveylaw01.MarkTolds', WHERE WHAT IT READS IS OF BULK AT MOST 1048576: true; the input reads as it did. -/
def markToldsUptoRow : OpenClaim := { program := "ytbhcchhhpmlpmaa", sum := "b04e769c83a798a4fc6892eb7e1e0d941ffca4b6dbadd012091e6f6e6a43c14d", func := "peavey/peaveylaw01.MarkTolds", spec := "markTolds", unfollowed := true, recurses := true, plainKeys := false, apart := false, narrowed := true }
def MarkToldsUptoSaid : Prop := markToldsUptoRow.holds Try.pinned (OpenSpec.upto markToldsSpec)

/-- 'peaveylaw01.MarkFrees', WHERE WHAT IT READS IS OF BULK AT MOST 1048576: true; the input reads as it did. -/
def markFreesUptoRow : OpenClaim := { program := "ytbhcchhhpmlpmaa", sum := "b04e769c83a798a4fc6892eb7e1e0d941ffca4b6dbadd012091e6f6e6a43c14d", func := "peavey/peaveylaw01.MarkFrees", spec := "markFrees", unfollowed := true, recurses := true, plainKeys := false, apart := false, narrowed := true }
def MarkFreesUptoSaid : Prop := markFreesUptoRow.holds Try.pinned (OpenSpec.upto markFreesSpec)

/-- 'peaveylaw01.MarkFamilies', WHERE WHAT IT READS IS OF BULK AT MOST 1048576: true; the input reads as it did. -/
def markFamiliesUptoRow : OpenClaim := { program := "ytbhcchhhpmlpmaa", sum := "b04e769c83a798a4fc6892eb7e1e0d941ffca4b6dbadd012091e6f6e6a43c14d", func := "peavey/peaveylaw01.MarkFamilies", spec := "markFamilies", unfollowed := true, recurses := true, plainKeys := false, apart := false, narrowed := true }
def MarkFamiliesUptoSaid : Prop := markFamiliesUptoRow.holds Try.pinned (OpenSpec.upto markFamiliesSpec)

/-- 'peaveylaw01.MarkEither', WHERE WHAT IT READS IS OF BULK AT MOST 1048576: true; the input reads as it did. -/
def markEitherUptoRow : OpenClaim := { program := "ytbhcchhhpmlpmaa", sum := "b04e769c83a798a4fc6892eb7e1e0d941ffca4b6dbadd012091e6f6e6a43c14d", func := "peavey/peaveylaw01.MarkEither", spec := "markEither", unfollowed := true, recurses := true, plainKeys := false, apart := false, narrowed := true }
def MarkEitherUptoSaid : Prop := markEitherUptoRow.holds Try.pinned (OpenSpec.upto markEitherSpec)

/-- 'peaveylaw01.MarkMargin', WHERE WHAT IT READS IS OF BULK AT MOST 1048576: true; the input reads as it did. -/
def markMarginUptoRow : OpenClaim := { program := "ytbhcchhhpmlpmaa", sum := "b04e769c83a798a4fc6892eb7e1e0d941ffca4b6dbadd012091e6f6e6a43c14d", func := "peavey/peaveylaw01.MarkMargin", spec := "markMargin", unfollowed := true, recurses := true, plainKeys := false, apart := false, narrowed := true }
def MarkMarginUptoSaid : Prop := markMarginUptoRow.holds Try.pinned (OpenSpec.upto markMarginSpec)

/-- 'peaveylaw01.MarkFree', WHERE WHAT IT READS IS OF BULK AT MOST 1048576: true; the input reads as it did. -/
def markFreeUptoRow : OpenClaim := { program := "ytbhcchhhpmlpmaa", sum := "b04e769c83a798a4fc6892eb7e1e0d941ffca4b6dbadd012091e6f6e6a43c14d", func := "peavey/peaveylaw01.MarkFree", spec := "markFree", unfollowed := true, recurses := true, plainKeys := false, apart := false, narrowed := true }
def MarkFreeUptoSaid : Prop := markFreeUptoRow.holds Try.pinned (OpenSpec.upto markFreeSpec)

/-- 'peaveylaw01.MarkTold', WHERE WHAT IT READS IS OF BULK AT MOST 1048576: true; the input reads as it did. -/
def markToldUptoRow : OpenClaim := { program := "ytbhcchhhpmlpmaa", sum := "b04e769c83a798a4fc6892eb7e1e0d941ffca4b6dbadd012091e6f6e6a43c14d", func := "peavey/peaveylaw01.MarkTold", spec := "markTold", unfollowed := true, recurses := true, plainKeys := false, apart := false, narrowed := true }
def MarkToldUptoSaid : Prop := markToldUptoRow.holds Try.pinned (OpenSpec.upto markToldSpec)

/-- 'peaveylaw01.MarkKept', WHERE WHAT IT READS IS OF BULK AT MOST 1048576: true; the input reads as it did. -/
def markKeptUptoRow : OpenClaim := { program := "ytbhcchhhpmlpmaa", sum := "b04e769c83a798a4fc6892eb7e1e0d941ffca4b6dbadd012091e6f6e6a43c14d", func := "peavey/peaveylaw01.MarkKept", spec := "markKept", unfollowed := true, recurses := true, plainKeys := false, apart := false, narrowed := true }
def MarkKeptUptoSaid : Prop := markKeptUptoRow.holds Try.pinned (OpenSpec.upto markKeptSpec)

/-- 'peaveylaw01.MarkFamily', WHERE WHAT IT READS IS OF BULK AT MOST 1048576: true; the input reads as it did. -/
def markFamilyUptoRow : OpenClaim := { program := "ytbhcchhhpmlpmaa", sum := "b04e769c83a798a4fc6892eb7e1e0d941ffca4b6dbadd012091e6f6e6a43c14d", func := "peavey/peaveylaw01.MarkFamily", spec := "markFamily", unfollowed := true, recurses := true, plainKeys := false, apart := false, narrowed := true }
def MarkFamilyUptoSaid : Prop := markFamilyUptoRow.holds Try.pinned (OpenSpec.upto markFamilySpec)

/-- 'peaveylaw01.MarkLost', WHERE WHAT IT READS IS OF BULK AT MOST 1048576: true; the input reads as it did. -/
def markLostUptoRow : OpenClaim := { program := "ytbhcchhhpmlpmaa", sum := "b04e769c83a798a4fc6892eb7e1e0d941ffca4b6dbadd012091e6f6e6a43c14d", func := "peavey/peaveylaw01.MarkLost", spec := "markLost", unfollowed := true, recurses := true, plainKeys := false, apart := false, narrowed := true }
def MarkLostUptoSaid : Prop := markLostUptoRow.holds Try.pinned (OpenSpec.upto markLostSpec)

/-- 'peaveylaw01.MarkNamed', WHERE WHAT IT READS IS OF BULK AT MOST 1048576: true; the input reads as it did. -/
def markNamedUptoRow : OpenClaim := { program := "ytbhcchhhpmlpmaa", sum := "b04e769c83a798a4fc6892eb7e1e0d941ffca4b6dbadd012091e6f6e6a43c14d", func := "peavey/peaveylaw01.MarkNamed", spec := "markNamed", unfollowed := true, recurses := true, plainKeys := false, apart := false, narrowed := true }
def MarkNamedUptoSaid : Prop := markNamedUptoRow.holds Try.pinned (OpenSpec.upto markNamedSpec)

/-- 'peaveylaw01.MarkKnown', WHERE WHAT IT READS IS OF BULK AT MOST 1048576: true; the input reads as it did. -/
def markKnownUptoRow : OpenClaim := { program := "ytbhcchhhpmlpmaa", sum := "b04e769c83a798a4fc6892eb7e1e0d941ffca4b6dbadd012091e6f6e6a43c14d", func := "peavey/peaveylaw01.MarkKnown", spec := "markKnown", unfollowed := true, recurses := true, plainKeys := false, apart := false, narrowed := true }
def MarkKnownUptoSaid : Prop := markKnownUptoRow.holds Try.pinned (OpenSpec.upto markKnownSpec)

end Rows
end Go.Proofs.Ytbhcchhhpmlpmaa
