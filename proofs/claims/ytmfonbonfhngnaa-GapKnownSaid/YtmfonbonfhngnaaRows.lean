/-
  No cell of these rows narrows 'for every input' (looked for: loops, veiled, ifaces, maps, wideKeys, modest, calm, conditions, laid).
  DERIVED. THE GIVEN ROWS OF THIS SEAT. 14 by the template 'for every input the law returns true; each argument reads behind the call as it read before'; 0 by the template 'total and deterministic' (their statements: YtmfonbonfhngnaaTotals.lean).
  GIVEN WITH THE SEED: the statements are not yours to turn. If you find one false, say at which input.
  Laid BY PROGRAM, IN A SANDBOX (cutbox-rows.mjs): the forced cells as the released guide's own fill.sh prints them over the translation bd9a5e00c4158dea… (all of the seat's roots in one cut). By AI agents, Wed Nov 11 2026. No macro, syntax, notation, axiom, sorry.
-/
import Derived.Test.YtmfonbonfhngnaaChecked
import GoSem.Claim
import GoSem.ClaimJoined
import GoSem.ClaimMapViews
import Derived.JoinedTies
import Derived.KernelRfl
namespace Go.Proofs.Ytmfonbonfhngnaa
/- THE CELL 'sum', in the pinned program and in every row, IS THE sha256 OF THE DUMP (.gsa) THAT YtmfonbonfhngnaaProg.lean LOADS. Nothing in Lean hashes anything: it is a label: what it is worth is what the hold of that sum in a sandbox is worth. -/
noncomputable def Try.pinned : Pinned := { name := "ytmfonbonfhngnaa", sum := "bd9a5e00c4158dea982158e5689cd4741aa506c7824ece7f5f5e4b3565537a1c", checked := Try.checked }
namespace Rows
def none {H : Type} : Left H := { results := [], args := [] }

/-- 'peaveylaw03.GapRows': WHATEVER THE INPUT: true; the input reads as it did. -/
def gapRowsSpec : ChangeSpec := { name := "gapRows", fn := fun _ => fun
  | [d1, d2, d3] => { results := [.lit (.bool true)], args := [d1, d2, d3] }
  | _ => none }
def gapRowsRow : OpenClaim := { program := "ytmfonbonfhngnaa", sum := "bd9a5e00c4158dea982158e5689cd4741aa506c7824ece7f5f5e4b3565537a1c", func := "peavey/peaveylaw03.GapRows", spec := "gapRows", unfollowed := true, recurses := true, plainKeys := false, apart := false }
def GapRowsSaid : Prop := gapRowsRow.holds Try.pinned (OpenSpec.ofChange gapRowsSpec)

/-- ITS FALSE NEIGHBOUR: 'it returns false'. Refute it at one input. -/
def gapRowsWrong : ChangeSpec := { name := "gapRows", fn := fun _ => fun
  | [d1, d2, d3] => { results := [.lit (.bool false)], args := [d1, d2, d3] }
  | _ => none }
def GapRowsWrongFalsely : Prop := gapRowsRow.holds Try.pinned (OpenSpec.ofChange gapRowsWrong)

/-- 'peaveylaw03.GapMosts': WHATEVER THE INPUT: true; the input reads as it did. -/
def gapMostsSpec : ChangeSpec := { name := "gapMosts", fn := fun _ => fun
  | [d1, d2] => { results := [.lit (.bool true)], args := [d1, d2] }
  | _ => none }
def gapMostsRow : OpenClaim := { program := "ytmfonbonfhngnaa", sum := "bd9a5e00c4158dea982158e5689cd4741aa506c7824ece7f5f5e4b3565537a1c", func := "peavey/peaveylaw03.GapMosts", spec := "gapMosts", unfollowed := true, recurses := true, plainKeys := false, apart := false }
def GapMostsSaid : Prop := gapMostsRow.holds Try.pinned (OpenSpec.ofChange gapMostsSpec)

/-- ITS FALSE NEIGHBOUR: 'it returns false'. Refute it at one input. -/
def gapMostsWrong : ChangeSpec := { name := "gapMosts", fn := fun _ => fun
  | [d1, d2] => { results := [.lit (.bool false)], args := [d1, d2] }
  | _ => none }
def GapMostsWrongFalsely : Prop := gapMostsRow.holds Try.pinned (OpenSpec.ofChange gapMostsWrong)

/-- 'peaveylaw03.GapPlaces': WHATEVER THE INPUT: true; the input reads as it did. -/
def gapPlacesSpec : ChangeSpec := { name := "gapPlaces", fn := fun _ => fun
  | [d] => { results := [.lit (.bool true)], args := [d] }
  | _ => none }
def gapPlacesRow : OpenClaim := { program := "ytmfonbonfhngnaa", sum := "bd9a5e00c4158dea982158e5689cd4741aa506c7824ece7f5f5e4b3565537a1c", func := "peavey/peaveylaw03.GapPlaces", spec := "gapPlaces", unfollowed := true, recurses := true, plainKeys := false, apart := false }
def GapPlacesSaid : Prop := gapPlacesRow.holds Try.pinned (OpenSpec.ofChange gapPlacesSpec)

/-- ITS FALSE NEIGHBOUR: 'it returns false'. Refute it at one input. -/
def gapPlacesWrong : ChangeSpec := { name := "gapPlaces", fn := fun _ => fun
  | [d] => { results := [.lit (.bool false)], args := [d] }
  | _ => none }
def GapPlacesWrongFalsely : Prop := gapPlacesRow.holds Try.pinned (OpenSpec.ofChange gapPlacesWrong)

/-- 'peaveylaw03.GapBounds': WHATEVER THE INPUT: true; the input reads as it did. -/
def gapBoundsSpec : ChangeSpec := { name := "gapBounds", fn := fun _ => fun
  | [d1, d2, d3] => { results := [.lit (.bool true)], args := [d1, d2, d3] }
  | _ => none }
def gapBoundsRow : OpenClaim := { program := "ytmfonbonfhngnaa", sum := "bd9a5e00c4158dea982158e5689cd4741aa506c7824ece7f5f5e4b3565537a1c", func := "peavey/peaveylaw03.GapBounds", spec := "gapBounds", unfollowed := true, recurses := true, plainKeys := false, apart := false }
def GapBoundsSaid : Prop := gapBoundsRow.holds Try.pinned (OpenSpec.ofChange gapBoundsSpec)

/-- ITS FALSE NEIGHBOUR: 'it returns false'. Refute it at one input. -/
def gapBoundsWrong : ChangeSpec := { name := "gapBounds", fn := fun _ => fun
  | [d1, d2, d3] => { results := [.lit (.bool false)], args := [d1, d2, d3] }
  | _ => none }
def GapBoundsWrongFalsely : Prop := gapBoundsRow.holds Try.pinned (OpenSpec.ofChange gapBoundsWrong)

/-- 'peaveylaw03.GapProved': WHATEVER THE INPUT: true; the input reads as it did. -/
def gapProvedSpec : ChangeSpec := { name := "gapProved", fn := fun _ => fun
  | [d1, d2, d3, d4] => { results := [.lit (.bool true)], args := [d1, d2, d3, d4] }
  | _ => none }
def gapProvedRow : OpenClaim := { program := "ytmfonbonfhngnaa", sum := "bd9a5e00c4158dea982158e5689cd4741aa506c7824ece7f5f5e4b3565537a1c", func := "peavey/peaveylaw03.GapProved", spec := "gapProved", unfollowed := true, recurses := true, plainKeys := false, apart := false }
def GapProvedSaid : Prop := gapProvedRow.holds Try.pinned (OpenSpec.ofChange gapProvedSpec)

/-- ITS FALSE NEIGHBOUR: 'it returns false'. Refute it at one input. -/
def gapProvedWrong : ChangeSpec := { name := "gapProved", fn := fun _ => fun
  | [d1, d2, d3, d4] => { results := [.lit (.bool false)], args := [d1, d2, d3, d4] }
  | _ => none }
def GapProvedWrongFalsely : Prop := gapProvedRow.holds Try.pinned (OpenSpec.ofChange gapProvedWrong)

/-- 'peaveylaw03.GapShaped': WHATEVER THE INPUT: true; the input reads as it did. -/
def gapShapedSpec : ChangeSpec := { name := "gapShaped", fn := fun _ => fun
  | [d] => { results := [.lit (.bool true)], args := [d] }
  | _ => none }
def gapShapedRow : OpenClaim := { program := "ytmfonbonfhngnaa", sum := "bd9a5e00c4158dea982158e5689cd4741aa506c7824ece7f5f5e4b3565537a1c", func := "peavey/peaveylaw03.GapShaped", spec := "gapShaped", unfollowed := true, recurses := true, plainKeys := false, apart := false }
def GapShapedSaid : Prop := gapShapedRow.holds Try.pinned (OpenSpec.ofChange gapShapedSpec)

/-- ITS FALSE NEIGHBOUR: 'it returns false'. Refute it at one input. -/
def gapShapedWrong : ChangeSpec := { name := "gapShaped", fn := fun _ => fun
  | [d] => { results := [.lit (.bool false)], args := [d] }
  | _ => none }
def GapShapedWrongFalsely : Prop := gapShapedRow.holds Try.pinned (OpenSpec.ofChange gapShapedWrong)

/-- 'peaveylaw03.GapPlaced': WHATEVER THE INPUT: true; the input reads as it did. -/
def gapPlacedSpec : ChangeSpec := { name := "gapPlaced", fn := fun _ => fun
  | [d] => { results := [.lit (.bool true)], args := [d] }
  | _ => none }
def gapPlacedRow : OpenClaim := { program := "ytmfonbonfhngnaa", sum := "bd9a5e00c4158dea982158e5689cd4741aa506c7824ece7f5f5e4b3565537a1c", func := "peavey/peaveylaw03.GapPlaced", spec := "gapPlaced", unfollowed := true, recurses := true, plainKeys := false, apart := false }
def GapPlacedSaid : Prop := gapPlacedRow.holds Try.pinned (OpenSpec.ofChange gapPlacedSpec)

/-- ITS FALSE NEIGHBOUR: 'it returns false'. Refute it at one input. -/
def gapPlacedWrong : ChangeSpec := { name := "gapPlaced", fn := fun _ => fun
  | [d] => { results := [.lit (.bool false)], args := [d] }
  | _ => none }
def GapPlacedWrongFalsely : Prop := gapPlacedRow.holds Try.pinned (OpenSpec.ofChange gapPlacedWrong)

/-- 'peaveylaw03.GapMore': WHATEVER THE INPUT: true; the input reads as it did. -/
def gapMoreSpec : ChangeSpec := { name := "gapMore", fn := fun _ => fun
  | [d1, d2] => { results := [.lit (.bool true)], args := [d1, d2] }
  | _ => none }
def gapMoreRow : OpenClaim := { program := "ytmfonbonfhngnaa", sum := "bd9a5e00c4158dea982158e5689cd4741aa506c7824ece7f5f5e4b3565537a1c", func := "peavey/peaveylaw03.GapMore", spec := "gapMore", unfollowed := true, recurses := true, plainKeys := false, apart := false }
def GapMoreSaid : Prop := gapMoreRow.holds Try.pinned (OpenSpec.ofChange gapMoreSpec)

/-- ITS FALSE NEIGHBOUR: 'it returns false'. Refute it at one input. -/
def gapMoreWrong : ChangeSpec := { name := "gapMore", fn := fun _ => fun
  | [d1, d2] => { results := [.lit (.bool false)], args := [d1, d2] }
  | _ => none }
def GapMoreWrongFalsely : Prop := gapMoreRow.holds Try.pinned (OpenSpec.ofChange gapMoreWrong)

/-- 'peaveylaw03.GapFolded': WHATEVER THE INPUT: true; the input reads as it did. -/
def gapFoldedSpec : ChangeSpec := { name := "gapFolded", fn := fun _ => fun
  | [d] => { results := [.lit (.bool true)], args := [d] }
  | _ => none }
def gapFoldedRow : OpenClaim := { program := "ytmfonbonfhngnaa", sum := "bd9a5e00c4158dea982158e5689cd4741aa506c7824ece7f5f5e4b3565537a1c", func := "peavey/peaveylaw03.GapFolded", spec := "gapFolded", unfollowed := true, recurses := true, plainKeys := false, apart := false }
def GapFoldedSaid : Prop := gapFoldedRow.holds Try.pinned (OpenSpec.ofChange gapFoldedSpec)

/-- ITS FALSE NEIGHBOUR: 'it returns false'. Refute it at one input. -/
def gapFoldedWrong : ChangeSpec := { name := "gapFolded", fn := fun _ => fun
  | [d] => { results := [.lit (.bool false)], args := [d] }
  | _ => none }
def GapFoldedWrongFalsely : Prop := gapFoldedRow.holds Try.pinned (OpenSpec.ofChange gapFoldedWrong)

/-- 'peaveylaw03.GapJoined': WHATEVER THE INPUT: true; the input reads as it did. -/
def gapJoinedSpec : ChangeSpec := { name := "gapJoined", fn := fun _ => fun
  | [d1, d2] => { results := [.lit (.bool true)], args := [d1, d2] }
  | _ => none }
def gapJoinedRow : OpenClaim := { program := "ytmfonbonfhngnaa", sum := "bd9a5e00c4158dea982158e5689cd4741aa506c7824ece7f5f5e4b3565537a1c", func := "peavey/peaveylaw03.GapJoined", spec := "gapJoined", unfollowed := true, recurses := true, plainKeys := false, apart := false }
def GapJoinedSaid : Prop := gapJoinedRow.holds Try.pinned (OpenSpec.ofChange gapJoinedSpec)

/-- ITS FALSE NEIGHBOUR: 'it returns false'. Refute it at one input. -/
def gapJoinedWrong : ChangeSpec := { name := "gapJoined", fn := fun _ => fun
  | [d1, d2] => { results := [.lit (.bool false)], args := [d1, d2] }
  | _ => none }
def GapJoinedWrongFalsely : Prop := gapJoinedRow.holds Try.pinned (OpenSpec.ofChange gapJoinedWrong)

/-- 'peaveylaw03.GapRuns': WHATEVER THE INPUT: true; the input reads as it did. -/
def gapRunsSpec : ChangeSpec := { name := "gapRuns", fn := fun _ => fun
  | [d1, d2] => { results := [.lit (.bool true)], args := [d1, d2] }
  | _ => none }
def gapRunsRow : OpenClaim := { program := "ytmfonbonfhngnaa", sum := "bd9a5e00c4158dea982158e5689cd4741aa506c7824ece7f5f5e4b3565537a1c", func := "peavey/peaveylaw03.GapRuns", spec := "gapRuns", unfollowed := true, recurses := true, plainKeys := false, apart := false }
def GapRunsSaid : Prop := gapRunsRow.holds Try.pinned (OpenSpec.ofChange gapRunsSpec)

/-- ITS FALSE NEIGHBOUR: 'it returns false'. Refute it at one input. -/
def gapRunsWrong : ChangeSpec := { name := "gapRuns", fn := fun _ => fun
  | [d1, d2] => { results := [.lit (.bool false)], args := [d1, d2] }
  | _ => none }
def GapRunsWrongFalsely : Prop := gapRunsRow.holds Try.pinned (OpenSpec.ofChange gapRunsWrong)

/-- 'peaveylaw03.GapEither': WHATEVER THE INPUT: true; the input reads as it did. -/
def gapEitherSpec : ChangeSpec := { name := "gapEither", fn := fun _ => fun
  | [d1, d2, d3, d4] => { results := [.lit (.bool true)], args := [d1, d2, d3, d4] }
  | _ => none }
def gapEitherRow : OpenClaim := { program := "ytmfonbonfhngnaa", sum := "bd9a5e00c4158dea982158e5689cd4741aa506c7824ece7f5f5e4b3565537a1c", func := "peavey/peaveylaw03.GapEither", spec := "gapEither", unfollowed := true, recurses := true, plainKeys := false, apart := false }
def GapEitherSaid : Prop := gapEitherRow.holds Try.pinned (OpenSpec.ofChange gapEitherSpec)

/-- ITS FALSE NEIGHBOUR: 'it returns false'. Refute it at one input. -/
def gapEitherWrong : ChangeSpec := { name := "gapEither", fn := fun _ => fun
  | [d1, d2, d3, d4] => { results := [.lit (.bool false)], args := [d1, d2, d3, d4] }
  | _ => none }
def GapEitherWrongFalsely : Prop := gapEitherRow.holds Try.pinned (OpenSpec.ofChange gapEitherWrong)

/-- 'peaveylaw03.GapTurned': WHATEVER THE INPUT: true; the input reads as it did. -/
def gapTurnedSpec : ChangeSpec := { name := "gapTurned", fn := fun _ => fun
  | [d1, d2] => { results := [.lit (.bool true)], args := [d1, d2] }
  | _ => none }
def gapTurnedRow : OpenClaim := { program := "ytmfonbonfhngnaa", sum := "bd9a5e00c4158dea982158e5689cd4741aa506c7824ece7f5f5e4b3565537a1c", func := "peavey/peaveylaw03.GapTurned", spec := "gapTurned", unfollowed := true, recurses := true, plainKeys := false, apart := false }
def GapTurnedSaid : Prop := gapTurnedRow.holds Try.pinned (OpenSpec.ofChange gapTurnedSpec)

/-- ITS FALSE NEIGHBOUR: 'it returns false'. Refute it at one input. -/
def gapTurnedWrong : ChangeSpec := { name := "gapTurned", fn := fun _ => fun
  | [d1, d2] => { results := [.lit (.bool false)], args := [d1, d2] }
  | _ => none }
def GapTurnedWrongFalsely : Prop := gapTurnedRow.holds Try.pinned (OpenSpec.ofChange gapTurnedWrong)

/-- 'peaveylaw03.GapKnown': WHATEVER THE INPUT: true; the input reads as it did. -/
def gapKnownSpec : ChangeSpec := { name := "gapKnown", fn := fun _ => fun
  | [] => { results := [.lit (.bool true)], args := [] }
  | _ => none }
def gapKnownRow : OpenClaim := { program := "ytmfonbonfhngnaa", sum := "bd9a5e00c4158dea982158e5689cd4741aa506c7824ece7f5f5e4b3565537a1c", func := "peavey/peaveylaw03.GapKnown", spec := "gapKnown", unfollowed := true, recurses := true, plainKeys := false, apart := false }
def GapKnownSaid : Prop := gapKnownRow.holds Try.pinned (OpenSpec.ofChange gapKnownSpec)

/-- ITS FALSE NEIGHBOUR: 'it returns false'. Refute it at one input. -/
def gapKnownWrong : ChangeSpec := { name := "gapKnown", fn := fun _ => fun
  | [] => { results := [.lit (.bool false)], args := [] }
  | _ => none }
def GapKnownWrongFalsely : Prop := gapKnownRow.holds Try.pinned (OpenSpec.ofChange gapKnownWrong)

/- THE SECOND FORM. 'bulk': how many values and letters a reading holds, each counted each time it is reached (what is shared counts as often as it is met; a slice's spare places count too). A statement '..UptoSaid' is the law's where the arguments, and the package variables that the reading takes, are together of bulk at most 1048576: NARROWER than '..Said'. Prove '..Said' where nothing that the law and all that it calls make is longer than what came in: it says more and counts as full. Else prove '..UptoSaid'. A law counts once. -/
mutual
def uptoBulk {H : Type} : DataW H → Nat
  | .lit (.string bytes) => bytes.length + 1
  | .lit _ => 1
  | .nil => 1
  | .ptr d => uptoBulk d + 1
  | .slice elems spare => uptoBulkAll elems + uptoBulkAll spare + 1
  | .agg parts => uptoBulkAll parts + 1
  | .iface _ d => uptoBulk d + 1
  | .map entries => uptoBulkEntries entries + 1
  | .held _ => 1
def uptoBulkAll {H : Type} : List (DataW H) → Nat
  | [] => 0
  | d :: r => uptoBulk d + uptoBulkAll r
def uptoBulkEntries {H : Type} : List (Lit × DataW H) → Nat
  | [] => 0
  | x :: r => uptoBulkEntry x + uptoBulkEntries r
def uptoBulkEntry {H : Type} : Lit × DataW H → Nat
  | (.string bytes, d) => bytes.length + uptoBulk d + 1
  | (_, d) => uptoBulk d + 1
 end
def uptoSmall : (H : Type) → List (DataW H) → Bool := fun _ ds => decide (uptoBulkAll ds ≤ 1048576)
def OpenSpec.upto (s : _root_.Go.ChangeSpec) : _root_.Go.OpenSpec := { _root_.Go.OpenSpec.ofChange s with cond := some uptoSmall }

/-- 'peaveylaw03.GapRows', WHERE WHAT IT READS IS OF BULK AT MOST 1048576: true; the input reads as it did. -/
def gapRowsUptoRow : OpenClaim := { program := "ytmfonbonfhngnaa", sum := "bd9a5e00c4158dea982158e5689cd4741aa506c7824ece7f5f5e4b3565537a1c", func := "peavey/peaveylaw03.GapRows", spec := "gapRows", unfollowed := true, recurses := true, plainKeys := false, apart := false, narrowed := true }
def GapRowsUptoSaid : Prop := gapRowsUptoRow.holds Try.pinned (OpenSpec.upto gapRowsSpec)

/-- 'peaveylaw03.GapMosts', WHERE WHAT IT READS IS OF BULK AT MOST 1048576: true; the input reads as it did. -/
def gapMostsUptoRow : OpenClaim := { program := "ytmfonbonfhngnaa", sum := "bd9a5e00c4158dea982158e5689cd4741aa506c7824ece7f5f5e4b3565537a1c", func := "peavey/peaveylaw03.GapMosts", spec := "gapMosts", unfollowed := true, recurses := true, plainKeys := false, apart := false, narrowed := true }
def GapMostsUptoSaid : Prop := gapMostsUptoRow.holds Try.pinned (OpenSpec.upto gapMostsSpec)

/-- 'peaveylaw03.GapPlaces', WHERE WHAT IT READS IS OF BULK AT MOST 1048576: true; the input reads as it did. -/
def gapPlacesUptoRow : OpenClaim := { program := "ytmfonbonfhngnaa", sum := "bd9a5e00c4158dea982158e5689cd4741aa506c7824ece7f5f5e4b3565537a1c", func := "peavey/peaveylaw03.GapPlaces", spec := "gapPlaces", unfollowed := true, recurses := true, plainKeys := false, apart := false, narrowed := true }
def GapPlacesUptoSaid : Prop := gapPlacesUptoRow.holds Try.pinned (OpenSpec.upto gapPlacesSpec)

/-- 'peaveylaw03.GapBounds', WHERE WHAT IT READS IS OF BULK AT MOST 1048576: true; the input reads as it did. -/
def gapBoundsUptoRow : OpenClaim := { program := "ytmfonbonfhngnaa", sum := "bd9a5e00c4158dea982158e5689cd4741aa506c7824ece7f5f5e4b3565537a1c", func := "peavey/peaveylaw03.GapBounds", spec := "gapBounds", unfollowed := true, recurses := true, plainKeys := false, apart := false, narrowed := true }
def GapBoundsUptoSaid : Prop := gapBoundsUptoRow.holds Try.pinned (OpenSpec.upto gapBoundsSpec)

/-- 'peaveylaw03.GapProved', WHERE WHAT IT READS IS OF BULK AT MOST 1048576: true; the input reads as it did. -/
def gapProvedUptoRow : OpenClaim := { program := "ytmfonbonfhngnaa", sum := "bd9a5e00c4158dea982158e5689cd4741aa506c7824ece7f5f5e4b3565537a1c", func := "peavey/peaveylaw03.GapProved", spec := "gapProved", unfollowed := true, recurses := true, plainKeys := false, apart := false, narrowed := true }
def GapProvedUptoSaid : Prop := gapProvedUptoRow.holds Try.pinned (OpenSpec.upto gapProvedSpec)

/-- 'peaveylaw03.GapShaped', WHERE WHAT IT READS IS OF BULK AT MOST 1048576: true; the input reads as it did. -/
def gapShapedUptoRow : OpenClaim := { program := "ytmfonbonfhngnaa", sum := "bd9a5e00c4158dea982158e5689cd4741aa506c7824ece7f5f5e4b3565537a1c", func := "peavey/peaveylaw03.GapShaped", spec := "gapShaped", unfollowed := true, recurses := true, plainKeys := false, apart := false, narrowed := true }
def GapShapedUptoSaid : Prop := gapShapedUptoRow.holds Try.pinned (OpenSpec.upto gapShapedSpec)

/-- 'peaveylaw03.GapPlaced', WHERE WHAT IT READS IS OF BULK AT MOST 1048576: true; the input reads as it did. -/
def gapPlacedUptoRow : OpenClaim := { program := "ytmfonbonfhngnaa", sum := "bd9a5e00c4158dea982158e5689cd4741aa506c7824ece7f5f5e4b3565537a1c", func := "peavey/peaveylaw03.GapPlaced", spec := "gapPlaced", unfollowed := true, recurses := true, plainKeys := false, apart := false, narrowed := true }
def GapPlacedUptoSaid : Prop := gapPlacedUptoRow.holds Try.pinned (OpenSpec.upto gapPlacedSpec)

/-- 'peaveylaw03.GapMore', WHERE WHAT IT READS IS OF BULK AT MOST 1048576: true; the input reads as it did. -/
def gapMoreUptoRow : OpenClaim := { program := "ytmfonbonfhngnaa", sum := "bd9a5e00c4158dea982158e5689cd4741aa506c7824ece7f5f5e4b3565537a1c", func := "peavey/peaveylaw03.GapMore", spec := "gapMore", unfollowed := true, recurses := true, plainKeys := false, apart := false, narrowed := true }
def GapMoreUptoSaid : Prop := gapMoreUptoRow.holds Try.pinned (OpenSpec.upto gapMoreSpec)

/-- 'peaveylaw03.GapFolded', WHERE WHAT IT READS IS OF BULK AT MOST 1048576: true; the input reads as it did. -/
def gapFoldedUptoRow : OpenClaim := { program := "ytmfonbonfhngnaa", sum := "bd9a5e00c4158dea982158e5689cd4741aa506c7824ece7f5f5e4b3565537a1c", func := "peavey/peaveylaw03.GapFolded", spec := "gapFolded", unfollowed := true, recurses := true, plainKeys := false, apart := false, narrowed := true }
def GapFoldedUptoSaid : Prop := gapFoldedUptoRow.holds Try.pinned (OpenSpec.upto gapFoldedSpec)

/-- 'peaveylaw03.GapJoined', WHERE WHAT IT READS IS OF BULK AT MOST 1048576: true; the input reads as it did. -/
def gapJoinedUptoRow : OpenClaim := { program := "ytmfonbonfhngnaa", sum := "bd9a5e00c4158dea982158e5689cd4741aa506c7824ece7f5f5e4b3565537a1c", func := "peavey/peaveylaw03.GapJoined", spec := "gapJoined", unfollowed := true, recurses := true, plainKeys := false, apart := false, narrowed := true }
def GapJoinedUptoSaid : Prop := gapJoinedUptoRow.holds Try.pinned (OpenSpec.upto gapJoinedSpec)

/-- 'peaveylaw03.GapRuns', WHERE WHAT IT READS IS OF BULK AT MOST 1048576: true; the input reads as it did. -/
def gapRunsUptoRow : OpenClaim := { program := "ytmfonbonfhngnaa", sum := "bd9a5e00c4158dea982158e5689cd4741aa506c7824ece7f5f5e4b3565537a1c", func := "peavey/peaveylaw03.GapRuns", spec := "gapRuns", unfollowed := true, recurses := true, plainKeys := false, apart := false, narrowed := true }
def GapRunsUptoSaid : Prop := gapRunsUptoRow.holds Try.pinned (OpenSpec.upto gapRunsSpec)

/-- 'peaveylaw03.GapEither', WHERE WHAT IT READS IS OF BULK AT MOST 1048576: true; the input reads as it did. -/
def gapEitherUptoRow : OpenClaim := { program := "ytmfonbonfhngnaa", sum := "bd9a5e00c4158dea982158e5689cd4741aa506c7824ece7f5f5e4b3565537a1c", func := "peavey/peaveylaw03.GapEither", spec := "gapEither", unfollowed := true, recurses := true, plainKeys := false, apart := false, narrowed := true }
def GapEitherUptoSaid : Prop := gapEitherUptoRow.holds Try.pinned (OpenSpec.upto gapEitherSpec)

/-- 'peaveylaw03.GapTurned', WHERE WHAT IT READS IS OF BULK AT MOST 1048576: true; the input reads as it did. -/
def gapTurnedUptoRow : OpenClaim := { program := "ytmfonbonfhngnaa", sum := "bd9a5e00c4158dea982158e5689cd4741aa506c7824ece7f5f5e4b3565537a1c", func := "peavey/peaveylaw03.GapTurned", spec := "gapTurned", unfollowed := true, recurses := true, plainKeys := false, apart := false, narrowed := true }
def GapTurnedUptoSaid : Prop := gapTurnedUptoRow.holds Try.pinned (OpenSpec.upto gapTurnedSpec)

/-- 'peaveylaw03.GapKnown', WHERE WHAT IT READS IS OF BULK AT MOST 1048576: true; the input reads as it did. -/
def gapKnownUptoRow : OpenClaim := { program := "ytmfonbonfhngnaa", sum := "bd9a5e00c4158dea982158e5689cd4741aa506c7824ece7f5f5e4b3565537a1c", func := "peavey/peaveylaw03.GapKnown", spec := "gapKnown", unfollowed := true, recurses := true, plainKeys := false, apart := false, narrowed := true }
def GapKnownUptoSaid : Prop := gapKnownUptoRow.holds Try.pinned (OpenSpec.upto gapKnownSpec)

end Rows
end Go.Proofs.Ytmfonbonfhngnaa
