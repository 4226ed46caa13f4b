/-
  No cell of these rows narrows 'for every input' (looked for: loops, veiled, ifaces, maps, wideKeys, modest, calm, conditions, laid).
  DERIVED. THE GIVEN ROWS OF THIS SEAT. 14 by the template 'for every input the law returns true; each argument reads behind the call as it read before'; 0 by the template 'total and deterministic' (their statements: YtmgdidhhgdpobaaTotals.lean).
  GIVEN WITH THE SEED: the statements are not yours to turn. If you find one false, say at which input.
  Laid BY PROGRAM, IN A SANDBOX (cutbox-rows.mjs): the forced cells as the released guide's own fill.sh prints them over the translation 7cabf3a230898025… (all of the seat's roots in one cut). By AI agents, Wed Nov 11 2026. No macro, syntax, notation, axiom, sorry.
-/
import Derived.Test.YtmgdidhhgdpobaaChecked
import GoSem.Claim
import GoSem.ClaimJoined
import GoSem.ClaimMapViews
import Derived.JoinedTies
import Derived.KernelRfl
namespace Go.Proofs.Ytmgdidhhgdpobaa
/- THE CELL 'sum', in the pinned program and in every row, IS THE sha256 OF THE DUMP (.gsa) THAT YtmgdidhhgdpobaaProg.lean LOADS. Nothing in Lean hashes anything: it is a label: what it is worth is what the hold of that sum in a sandbox is worth. -/
noncomputable def Try.pinned : Pinned := { name := "ytmgdidhhgdpobaa", sum := "7cabf3a23089802587ed5879ce3c93cbdd6d9d933f3ba0528d31675d1bfbd733", checked := Try.checked }
namespace Rows
def none {H : Type} : Left H := { results := [], args := [] }

/-- 'peaveylaw10.CheckChoices': WHATEVER THE INPUT: true; the input reads as it did. -/
def checkChoicesSpec : ChangeSpec := { name := "checkChoices", fn := fun _ => fun
  | [d1, d2, d3, d4] => { results := [.lit (.bool true)], args := [d1, d2, d3, d4] }
  | _ => none }
def checkChoicesRow : OpenClaim := { program := "ytmgdidhhgdpobaa", sum := "7cabf3a23089802587ed5879ce3c93cbdd6d9d933f3ba0528d31675d1bfbd733", func := "peavey/peaveylaw10.CheckChoices", spec := "checkChoices", unfollowed := true, recurses := true, plainKeys := false, apart := false }
def CheckChoicesSaid : Prop := checkChoicesRow.holds Try.pinned (OpenSpec.ofChange checkChoicesSpec)

/-- ITS FALSE NEIGHBOUR: 'it returns false'. Refute it at one input. -/
def checkChoicesWrong : ChangeSpec := { name := "checkChoices", fn := fun _ => fun
  | [d1, d2, d3, d4] => { results := [.lit (.bool false)], args := [d1, d2, d3, d4] }
  | _ => none }
def CheckChoicesWrongFalsely : Prop := checkChoicesRow.holds Try.pinned (OpenSpec.ofChange checkChoicesWrong)

/-- 'peaveylaw10.CheckDraws': WHATEVER THE INPUT: true; the input reads as it did. -/
def checkDrawsSpec : ChangeSpec := { name := "checkDraws", fn := fun _ => fun
  | [d1, d2, d3, d4] => { results := [.lit (.bool true)], args := [d1, d2, d3, d4] }
  | _ => none }
def checkDrawsRow : OpenClaim := { program := "ytmgdidhhgdpobaa", sum := "7cabf3a23089802587ed5879ce3c93cbdd6d9d933f3ba0528d31675d1bfbd733", func := "peavey/peaveylaw10.CheckDraws", spec := "checkDraws", unfollowed := true, recurses := true, plainKeys := false, apart := false }
def CheckDrawsSaid : Prop := checkDrawsRow.holds Try.pinned (OpenSpec.ofChange checkDrawsSpec)

/-- ITS FALSE NEIGHBOUR: 'it returns false'. Refute it at one input. -/
def checkDrawsWrong : ChangeSpec := { name := "checkDraws", fn := fun _ => fun
  | [d1, d2, d3, d4] => { results := [.lit (.bool false)], args := [d1, d2, d3, d4] }
  | _ => none }
def CheckDrawsWrongFalsely : Prop := checkDrawsRow.holds Try.pinned (OpenSpec.ofChange checkDrawsWrong)

/-- 'peaveylaw10.CheckBetweens': WHATEVER THE INPUT: true; the input reads as it did. -/
def checkBetweensSpec : ChangeSpec := { name := "checkBetweens", fn := fun _ => fun
  | [d1, d2, d3, d4] => { results := [.lit (.bool true)], args := [d1, d2, d3, d4] }
  | _ => none }
def checkBetweensRow : OpenClaim := { program := "ytmgdidhhgdpobaa", sum := "7cabf3a23089802587ed5879ce3c93cbdd6d9d933f3ba0528d31675d1bfbd733", func := "peavey/peaveylaw10.CheckBetweens", spec := "checkBetweens", unfollowed := true, recurses := true, plainKeys := false, apart := false }
def CheckBetweensSaid : Prop := checkBetweensRow.holds Try.pinned (OpenSpec.ofChange checkBetweensSpec)

/-- ITS FALSE NEIGHBOUR: 'it returns false'. Refute it at one input. -/
def checkBetweensWrong : ChangeSpec := { name := "checkBetweens", fn := fun _ => fun
  | [d1, d2, d3, d4] => { results := [.lit (.bool false)], args := [d1, d2, d3, d4] }
  | _ => none }
def CheckBetweensWrongFalsely : Prop := checkBetweensRow.holds Try.pinned (OpenSpec.ofChange checkBetweensWrong)

/-- 'peaveylaw10.CheckTests': WHATEVER THE INPUT: true; the input reads as it did. -/
def checkTestsSpec : ChangeSpec := { name := "checkTests", fn := fun _ => fun
  | [d1, d2] => { results := [.lit (.bool true)], args := [d1, d2] }
  | _ => none }
def checkTestsRow : OpenClaim := { program := "ytmgdidhhgdpobaa", sum := "7cabf3a23089802587ed5879ce3c93cbdd6d9d933f3ba0528d31675d1bfbd733", func := "peavey/peaveylaw10.CheckTests", spec := "checkTests", unfollowed := true, recurses := true, plainKeys := false, apart := false }
def CheckTestsSaid : Prop := checkTestsRow.holds Try.pinned (OpenSpec.ofChange checkTestsSpec)

/-- ITS FALSE NEIGHBOUR: 'it returns false'. Refute it at one input. -/
def checkTestsWrong : ChangeSpec := { name := "checkTests", fn := fun _ => fun
  | [d1, d2] => { results := [.lit (.bool false)], args := [d1, d2] }
  | _ => none }
def CheckTestsWrongFalsely : Prop := checkTestsRow.holds Try.pinned (OpenSpec.ofChange checkTestsWrong)

/-- 'peaveylaw10.CheckPlans': WHATEVER THE INPUT: true; the input reads as it did. -/
def checkPlansSpec : ChangeSpec := { name := "checkPlans", fn := fun _ => fun
  | [d] => { results := [.lit (.bool true)], args := [d] }
  | _ => none }
def checkPlansRow : OpenClaim := { program := "ytmgdidhhgdpobaa", sum := "7cabf3a23089802587ed5879ce3c93cbdd6d9d933f3ba0528d31675d1bfbd733", func := "peavey/peaveylaw10.CheckPlans", spec := "checkPlans", unfollowed := true, recurses := true, plainKeys := false, apart := false }
def CheckPlansSaid : Prop := checkPlansRow.holds Try.pinned (OpenSpec.ofChange checkPlansSpec)

/-- ITS FALSE NEIGHBOUR: 'it returns false'. Refute it at one input. -/
def checkPlansWrong : ChangeSpec := { name := "checkPlans", fn := fun _ => fun
  | [d] => { results := [.lit (.bool false)], args := [d] }
  | _ => none }
def CheckPlansWrongFalsely : Prop := checkPlansRow.holds Try.pinned (OpenSpec.ofChange checkPlansWrong)

/-- 'peaveylaw10.CheckAll': WHATEVER THE INPUT: true; the input reads as it did. -/
def checkAllSpec : ChangeSpec := { name := "checkAll", fn := fun _ => fun
  | [d1, d2, d3, d4] => { results := [.lit (.bool true)], args := [d1, d2, d3, d4] }
  | _ => none }
def checkAllRow : OpenClaim := { program := "ytmgdidhhgdpobaa", sum := "7cabf3a23089802587ed5879ce3c93cbdd6d9d933f3ba0528d31675d1bfbd733", func := "peavey/peaveylaw10.CheckAll", spec := "checkAll", unfollowed := true, recurses := true, plainKeys := false, apart := false }
def CheckAllSaid : Prop := checkAllRow.holds Try.pinned (OpenSpec.ofChange checkAllSpec)

/-- ITS FALSE NEIGHBOUR: 'it returns false'. Refute it at one input. -/
def checkAllWrong : ChangeSpec := { name := "checkAll", fn := fun _ => fun
  | [d1, d2, d3, d4] => { results := [.lit (.bool false)], args := [d1, d2, d3, d4] }
  | _ => none }
def CheckAllWrongFalsely : Prop := checkAllRow.holds Try.pinned (OpenSpec.ofChange checkAllWrong)

/-- 'peaveylaw10.CheckSwapped': WHATEVER THE INPUT: true; the input reads as it did. -/
def checkSwappedSpec : ChangeSpec := { name := "checkSwapped", fn := fun _ => fun
  | [d1, d2, d3, d4] => { results := [.lit (.bool true)], args := [d1, d2, d3, d4] }
  | _ => none }
def checkSwappedRow : OpenClaim := { program := "ytmgdidhhgdpobaa", sum := "7cabf3a23089802587ed5879ce3c93cbdd6d9d933f3ba0528d31675d1bfbd733", func := "peavey/peaveylaw10.CheckSwapped", spec := "checkSwapped", unfollowed := true, recurses := true, plainKeys := false, apart := false }
def CheckSwappedSaid : Prop := checkSwappedRow.holds Try.pinned (OpenSpec.ofChange checkSwappedSpec)

/-- ITS FALSE NEIGHBOUR: 'it returns false'. Refute it at one input. -/
def checkSwappedWrong : ChangeSpec := { name := "checkSwapped", fn := fun _ => fun
  | [d1, d2, d3, d4] => { results := [.lit (.bool false)], args := [d1, d2, d3, d4] }
  | _ => none }
def CheckSwappedWrongFalsely : Prop := checkSwappedRow.holds Try.pinned (OpenSpec.ofChange checkSwappedWrong)

/-- 'peaveylaw10.CheckMore': WHATEVER THE INPUT: true; the input reads as it did. -/
def checkMoreSpec : ChangeSpec := { name := "checkMore", fn := fun _ => fun
  | [d1, d2, d3, d4] => { results := [.lit (.bool true)], args := [d1, d2, d3, d4] }
  | _ => none }
def checkMoreRow : OpenClaim := { program := "ytmgdidhhgdpobaa", sum := "7cabf3a23089802587ed5879ce3c93cbdd6d9d933f3ba0528d31675d1bfbd733", func := "peavey/peaveylaw10.CheckMore", spec := "checkMore", unfollowed := true, recurses := true, plainKeys := false, apart := false }
def CheckMoreSaid : Prop := checkMoreRow.holds Try.pinned (OpenSpec.ofChange checkMoreSpec)

/-- ITS FALSE NEIGHBOUR: 'it returns false'. Refute it at one input. -/
def checkMoreWrong : ChangeSpec := { name := "checkMore", fn := fun _ => fun
  | [d1, d2, d3, d4] => { results := [.lit (.bool false)], args := [d1, d2, d3, d4] }
  | _ => none }
def CheckMoreWrongFalsely : Prop := checkMoreRow.holds Try.pinned (OpenSpec.ofChange checkMoreWrong)

/-- 'peaveylaw10.CheckDrawn': WHATEVER THE INPUT: true; the input reads as it did. -/
def checkDrawnSpec : ChangeSpec := { name := "checkDrawn", fn := fun _ => fun
  | [d1, d2, d3, d4, d5] => { results := [.lit (.bool true)], args := [d1, d2, d3, d4, d5] }
  | _ => none }
def checkDrawnRow : OpenClaim := { program := "ytmgdidhhgdpobaa", sum := "7cabf3a23089802587ed5879ce3c93cbdd6d9d933f3ba0528d31675d1bfbd733", func := "peavey/peaveylaw10.CheckDrawn", spec := "checkDrawn", unfollowed := true, recurses := true, plainKeys := false, apart := false }
def CheckDrawnSaid : Prop := checkDrawnRow.holds Try.pinned (OpenSpec.ofChange checkDrawnSpec)

/-- ITS FALSE NEIGHBOUR: 'it returns false'. Refute it at one input. -/
def checkDrawnWrong : ChangeSpec := { name := "checkDrawn", fn := fun _ => fun
  | [d1, d2, d3, d4, d5] => { results := [.lit (.bool false)], args := [d1, d2, d3, d4, d5] }
  | _ => none }
def CheckDrawnWrongFalsely : Prop := checkDrawnRow.holds Try.pinned (OpenSpec.ofChange checkDrawnWrong)

/-- 'peaveylaw10.CheckBetween': WHATEVER THE INPUT: true; the input reads as it did. -/
def checkBetweenSpec : ChangeSpec := { name := "checkBetween", fn := fun _ => fun
  | [d1, d2, d3, d4, d5, d6] => { results := [.lit (.bool true)], args := [d1, d2, d3, d4, d5, d6] }
  | _ => none }
def checkBetweenRow : OpenClaim := { program := "ytmgdidhhgdpobaa", sum := "7cabf3a23089802587ed5879ce3c93cbdd6d9d933f3ba0528d31675d1bfbd733", func := "peavey/peaveylaw10.CheckBetween", spec := "checkBetween", unfollowed := true, recurses := true, plainKeys := false, apart := false }
def CheckBetweenSaid : Prop := checkBetweenRow.holds Try.pinned (OpenSpec.ofChange checkBetweenSpec)

/-- ITS FALSE NEIGHBOUR: 'it returns false'. Refute it at one input. -/
def checkBetweenWrong : ChangeSpec := { name := "checkBetween", fn := fun _ => fun
  | [d1, d2, d3, d4, d5, d6] => { results := [.lit (.bool false)], args := [d1, d2, d3, d4, d5, d6] }
  | _ => none }
def CheckBetweenWrongFalsely : Prop := checkBetweenRow.holds Try.pinned (OpenSpec.ofChange checkBetweenWrong)

/-- 'peaveylaw10.CheckPlanned': WHATEVER THE INPUT: true; the input reads as it did. -/
def checkPlannedSpec : ChangeSpec := { name := "checkPlanned", fn := fun _ => fun
  | [d1, d2, d3, d4, d5] => { results := [.lit (.bool true)], args := [d1, d2, d3, d4, d5] }
  | _ => none }
def checkPlannedRow : OpenClaim := { program := "ytmgdidhhgdpobaa", sum := "7cabf3a23089802587ed5879ce3c93cbdd6d9d933f3ba0528d31675d1bfbd733", func := "peavey/peaveylaw10.CheckPlanned", spec := "checkPlanned", unfollowed := true, recurses := true, plainKeys := false, apart := false }
def CheckPlannedSaid : Prop := checkPlannedRow.holds Try.pinned (OpenSpec.ofChange checkPlannedSpec)

/-- ITS FALSE NEIGHBOUR: 'it returns false'. Refute it at one input. -/
def checkPlannedWrong : ChangeSpec := { name := "checkPlanned", fn := fun _ => fun
  | [d1, d2, d3, d4, d5] => { results := [.lit (.bool false)], args := [d1, d2, d3, d4, d5] }
  | _ => none }
def CheckPlannedWrongFalsely : Prop := checkPlannedRow.holds Try.pinned (OpenSpec.ofChange checkPlannedWrong)

/-- 'peaveylaw10.CheckTurned': WHATEVER THE INPUT: true; the input reads as it did. -/
def checkTurnedSpec : ChangeSpec := { name := "checkTurned", fn := fun _ => fun
  | [d1, d2, d3, d4] => { results := [.lit (.bool true)], args := [d1, d2, d3, d4] }
  | _ => none }
def checkTurnedRow : OpenClaim := { program := "ytmgdidhhgdpobaa", sum := "7cabf3a23089802587ed5879ce3c93cbdd6d9d933f3ba0528d31675d1bfbd733", func := "peavey/peaveylaw10.CheckTurned", spec := "checkTurned", unfollowed := true, recurses := true, plainKeys := false, apart := false }
def CheckTurnedSaid : Prop := checkTurnedRow.holds Try.pinned (OpenSpec.ofChange checkTurnedSpec)

/-- ITS FALSE NEIGHBOUR: 'it returns false'. Refute it at one input. -/
def checkTurnedWrong : ChangeSpec := { name := "checkTurned", fn := fun _ => fun
  | [d1, d2, d3, d4] => { results := [.lit (.bool false)], args := [d1, d2, d3, d4] }
  | _ => none }
def CheckTurnedWrongFalsely : Prop := checkTurnedRow.holds Try.pinned (OpenSpec.ofChange checkTurnedWrong)

/-- 'peaveylaw10.CheckParted': WHATEVER THE INPUT: true; the input reads as it did. -/
def checkPartedSpec : ChangeSpec := { name := "checkParted", fn := fun _ => fun
  | [d1, d2, d3, d4, d5, d6] => { results := [.lit (.bool true)], args := [d1, d2, d3, d4, d5, d6] }
  | _ => none }
def checkPartedRow : OpenClaim := { program := "ytmgdidhhgdpobaa", sum := "7cabf3a23089802587ed5879ce3c93cbdd6d9d933f3ba0528d31675d1bfbd733", func := "peavey/peaveylaw10.CheckParted", spec := "checkParted", unfollowed := true, recurses := true, plainKeys := false, apart := false }
def CheckPartedSaid : Prop := checkPartedRow.holds Try.pinned (OpenSpec.ofChange checkPartedSpec)

/-- ITS FALSE NEIGHBOUR: 'it returns false'. Refute it at one input. -/
def checkPartedWrong : ChangeSpec := { name := "checkParted", fn := fun _ => fun
  | [d1, d2, d3, d4, d5, d6] => { results := [.lit (.bool false)], args := [d1, d2, d3, d4, d5, d6] }
  | _ => none }
def CheckPartedWrongFalsely : Prop := checkPartedRow.holds Try.pinned (OpenSpec.ofChange checkPartedWrong)

/-- 'peaveylaw10.CheckKnown': WHATEVER THE INPUT: true; the input reads as it did. -/
def checkKnownSpec : ChangeSpec := { name := "checkKnown", fn := fun _ => fun
  | [] => { results := [.lit (.bool true)], args := [] }
  | _ => none }
def checkKnownRow : OpenClaim := { program := "ytmgdidhhgdpobaa", sum := "7cabf3a23089802587ed5879ce3c93cbdd6d9d933f3ba0528d31675d1bfbd733", func := "peavey/peaveylaw10.CheckKnown", spec := "checkKnown", unfollowed := true, recurses := true, plainKeys := false, apart := false }
def CheckKnownSaid : Prop := checkKnownRow.holds Try.pinned (OpenSpec.ofChange checkKnownSpec)

/-- ITS FALSE NEIGHBOUR: 'it returns false'. Refute it at one input. -/
def checkKnownWrong : ChangeSpec := { name := "checkKnown", fn := fun _ => fun
  | [] => { results := [.lit (.bool false)], args := [] }
  | _ => none }
def CheckKnownWrongFalsely : Prop := checkKnownRow.holds Try.pinned (OpenSpec.ofChange checkKnownWrong)

/- THE SECOND FORM. 'bulk': how many values and letters a reading holds, each counted each time it is reached (what is shared counts as often as it is met; a slice's spare places count too). A statement '..UptoSaid' is the law's where the arguments, and the package variables that the reading takes, are together of bulk at most 1048576: NARROWER than '..Said'. Prove '..Said' where nothing that the law and all that it calls make is longer than what came in: it says more and counts as full. Else prove '..UptoSaid'. A law counts once. -/
mutual
def uptoBulk {H : Type} : DataW H → Nat
  | .lit (.string bytes) => bytes.length + 1
  | .lit _ => 1
  | .nil => 1
  | .ptr d => uptoBulk d + 1
  | .slice elems spare => uptoBulkAll elems + uptoBulkAll spare + 1
  | .agg parts => uptoBulkAll parts + 1
  | .iface _ d => uptoBulk d + 1
  | .map entries => uptoBulkEntries entries + 1
  | .held _ => 1
def uptoBulkAll {H : Type} : List (DataW H) → Nat
  | [] => 0
  | d :: r => uptoBulk d + uptoBulkAll r
def uptoBulkEntries {H : Type} : List (Lit × DataW H) → Nat
  | [] => 0
  | x :: r => uptoBulkEntry x + uptoBulkEntries r
def uptoBulkEntry {H : Type} : Lit × DataW H → Nat
  | (.string bytes, d) => bytes.length + uptoBulk d + 1
  | (_, d) => uptoBulk d + 1
 end
def uptoSmall : (H : Type) → List (DataW H) → Bool := fun _ ds => decide (uptoBulkAll ds ≤ 1048576)
def OpenSpec.upto (s : _root_.Go.ChangeSpec) : _root_.Go.OpenSpec := { _root_.Go.OpenSpec.ofChange s with cond := some uptoSmall }

/-- 'peaveylaw10.CheckChoices', WHERE WHAT IT READS IS OF BULK AT MOST 1048576: true; the input reads as it did. -/
def checkChoicesUptoRow : OpenClaim := { program := "ytmgdidhhgdpobaa", sum := "7cabf3a23089802587ed5879ce3c93cbdd6d9d933f3ba0528d31675d1bfbd733", func := "peavey/peaveylaw10.CheckChoices", spec := "checkChoices", unfollowed := true, recurses := true, plainKeys := false, apart := false, narrowed := true }
def CheckChoicesUptoSaid : Prop := checkChoicesUptoRow.holds Try.pinned (OpenSpec.upto checkChoicesSpec)

/-- 'peaveylaw10.CheckDraws', WHERE WHAT IT READS IS OF BULK AT MOST 1048576: true; the input reads as it did. -/
def checkDrawsUptoRow : OpenClaim := { program := "ytmgdidhhgdpobaa", sum := "7cabf3a23089802587ed5879ce3c93cbdd6d9d933f3ba0528d31675d1bfbd733", func := "peavey/peaveylaw10.CheckDraws", spec := "checkDraws", unfollowed := true, recurses := true, plainKeys := false, apart := false, narrowed := true }
def CheckDrawsUptoSaid : Prop := checkDrawsUptoRow.holds Try.pinned (OpenSpec.upto checkDrawsSpec)

/-- 'peaveylaw10.CheckBetweens', WHERE WHAT IT READS IS OF BULK AT MOST 1048576: true; the input reads as it did. -/
def checkBetweensUptoRow : OpenClaim := { program := "ytmgdidhhgdpobaa", sum := "7cabf3a23089802587ed5879ce3c93cbdd6d9d933f3ba0528d31675d1bfbd733", func := "peavey/peaveylaw10.CheckBetweens", spec := "checkBetweens", unfollowed := true, recurses := true, plainKeys := false, apart := false, narrowed := true }
def CheckBetweensUptoSaid : Prop := checkBetweensUptoRow.holds Try.pinned (OpenSpec.upto checkBetweensSpec)

/-- 'peaveylaw10.CheckTests', WHERE WHAT IT READS IS OF BULK AT MOST 1048576: true; the input reads as it did. -/
def checkTestsUptoRow : OpenClaim := { program := "ytmgdidhhgdpobaa", sum := "7cabf3a23089802587ed5879ce3c93cbdd6d9d933f3ba0528d31675d1bfbd733", func := "peavey/peaveylaw10.CheckTests", spec := "checkTests", unfollowed := true, recurses := true, plainKeys := false, apart := false, narrowed := true }
def CheckTestsUptoSaid : Prop := checkTestsUptoRow.holds Try.pinned (OpenSpec.upto checkTestsSpec)

/-- 'peaveylaw10.CheckPlans', WHERE WHAT IT READS IS OF BULK AT MOST 1048576: true; the input reads as it did. -/
def checkPlansUptoRow : OpenClaim := { program := "ytmgdidhhgdpobaa", sum := "7cabf3a23089802587ed5879ce3c93cbdd6d9d933f3ba0528d31675d1bfbd733", func := "peavey/peaveylaw10.CheckPlans", spec := "checkPlans", unfollowed := true, recurses := true, plainKeys := false, apart := false, narrowed := true }
def CheckPlansUptoSaid : Prop := checkPlansUptoRow.holds Try.pinned (OpenSpec.upto checkPlansSpec)

/-- 'peaveylaw10.CheckAll', WHERE WHAT IT READS IS OF BULK AT MOST 1048576: true; the input reads as it did. -/
def checkAllUptoRow : OpenClaim := { program := "ytmgdidhhgdpobaa", sum := "7cabf3a23089802587ed5879ce3c93cbdd6d9d933f3ba0528d31675d1bfbd733", func := "peavey/peaveylaw10.CheckAll", spec := "checkAll", unfollowed := true, recurses := true, plainKeys := false, apart := false, narrowed := true }
def CheckAllUptoSaid : Prop := checkAllUptoRow.holds Try.pinned (OpenSpec.upto checkAllSpec)

/-- 'peaveylaw10.CheckSwapped', WHERE WHAT IT READS IS OF BULK AT MOST 1048576: true; the input reads as it did. -/
def checkSwappedUptoRow : OpenClaim := { program := "ytmgdidhhgdpobaa", sum := "7cabf3a23089802587ed5879ce3c93cbdd6d9d933f3ba0528d31675d1bfbd733", func := "peavey/peaveylaw10.CheckSwapped", spec := "checkSwapped", unfollowed := true, recurses := true, plainKeys := false, apart := false, narrowed := true }
def CheckSwappedUptoSaid : Prop := checkSwappedUptoRow.holds Try.pinned (OpenSpec.upto checkSwappedSpec)

/-- 'peaveylaw10.CheckMore', WHERE WHAT IT READS IS OF BULK AT MOST 1048576: true; the input reads as it did. -/
def checkMoreUptoRow : OpenClaim := { program := "ytmgdidhhgdpobaa", sum := "7cabf3a23089802587ed5879ce3c93cbdd6d9d933f3ba0528d31675d1bfbd733", func := "peavey/peaveylaw10.CheckMore", spec := "checkMore", unfollowed := true, recurses := true, plainKeys := false, apart := false, narrowed := true }
def CheckMoreUptoSaid : Prop := checkMoreUptoRow.holds Try.pinned (OpenSpec.upto checkMoreSpec)

/-- 'peaveylaw10.CheckDrawn', WHERE WHAT IT READS IS OF BULK AT MOST 1048576: true; the input reads as it did. -/
def checkDrawnUptoRow : OpenClaim := { program := "ytmgdidhhgdpobaa", sum := "7cabf3a23089802587ed5879ce3c93cbdd6d9d933f3ba0528d31675d1bfbd733", func := "peavey/peaveylaw10.CheckDrawn", spec := "checkDrawn", unfollowed := true, recurses := true, plainKeys := false, apart := false, narrowed := true }
def CheckDrawnUptoSaid : Prop := checkDrawnUptoRow.holds Try.pinned (OpenSpec.upto checkDrawnSpec)

/-- 'peaveylaw10.CheckBetween', WHERE WHAT IT READS IS OF BULK AT MOST 1048576: true; the input reads as it did. -/
def checkBetweenUptoRow : OpenClaim := { program := "ytmgdidhhgdpobaa", sum := "7cabf3a23089802587ed5879ce3c93cbdd6d9d933f3ba0528d31675d1bfbd733", func := "peavey/peaveylaw10.CheckBetween", spec := "checkBetween", unfollowed := true, recurses := true, plainKeys := false, apart := false, narrowed := true }
def CheckBetweenUptoSaid : Prop := checkBetweenUptoRow.holds Try.pinned (OpenSpec.upto checkBetweenSpec)

/-- 'peaveylaw10.CheckPlanned', WHERE WHAT IT READS IS OF BULK AT MOST 1048576: true; the input reads as it did. -/
def checkPlannedUptoRow : OpenClaim := { program := "ytmgdidhhgdpobaa", sum := "7cabf3a23089802587ed5879ce3c93cbdd6d9d933f3ba0528d31675d1bfbd733", func := "peavey/peaveylaw10.CheckPlanned", spec := "checkPlanned", unfollowed := true, recurses := true, plainKeys := false, apart := false, narrowed := true }
def CheckPlannedUptoSaid : Prop := checkPlannedUptoRow.holds Try.pinned (OpenSpec.upto checkPlannedSpec)

/-- 'peaveylaw10.CheckTurned', WHERE WHAT IT READS IS OF BULK AT MOST 1048576: true; the input reads as it did. -/
def checkTurnedUptoRow : OpenClaim := { program := "ytmgdidhhgdpobaa", sum := "7cabf3a23089802587ed5879ce3c93cbdd6d9d933f3ba0528d31675d1bfbd733", func := "peavey/peaveylaw10.CheckTurned", spec := "checkTurned", unfollowed := true, recurses := true, plainKeys := false, apart := false, narrowed := true }
def CheckTurnedUptoSaid : Prop := checkTurnedUptoRow.holds Try.pinned (OpenSpec.upto checkTurnedSpec)

/-- 'peaveylaw10.CheckParted', WHERE WHAT IT READS IS OF BULK AT MOST 1048576: true; the input reads as it did. -/
def checkPartedUptoRow : OpenClaim := { program := "ytmgdidhhgdpobaa", sum := "7cabf3a23089802587ed5879ce3c93cbdd6d9d933f3ba0528d31675d1bfbd733", func := "peavey/peaveylaw10.CheckParted", spec := "checkParted", unfollowed := true, recurses := true, plainKeys := false, apart := false, narrowed := true }
def CheckPartedUptoSaid : Prop := checkPartedUptoRow.holds Try.pinned (OpenSpec.upto checkPartedSpec)

/-- 'peaveylaw10.CheckKnown', WHERE WHAT IT READS IS OF BULK AT MOST 1048576: true; the input reads as it did. -/
def checkKnownUptoRow : OpenClaim := { program := "ytmgdidhhgdpobaa", sum := "7cabf3a23089802587ed5879ce3c93cbdd6d9d933f3ba0528d31675d1bfbd733", func := "peavey/peaveylaw10.CheckKnown", spec := "checkKnown", unfollowed := true, recurses := true, plainKeys := false, apart := false, narrowed := true }
def CheckKnownUptoSaid : Prop := checkKnownUptoRow.holds Try.pinned (OpenSpec.upto checkKnownSpec)

end Rows
end Go.Proofs.Ytmgdidhhgdpobaa
