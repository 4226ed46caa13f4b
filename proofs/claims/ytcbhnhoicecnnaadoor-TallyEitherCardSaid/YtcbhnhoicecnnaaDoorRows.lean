/-
  NARROWER THAN 'FOR EVERY INPUT', by the rows' own cells (each row's printed sentence says how): TallySheets: laid · TallyWeights: laid · TallyOffs: laid · TallySpans: laid · TallyProved: laid · TallyEither: laid · TallySpanned: laid · TallyNarrower: laid · TallyTurned: laid · TallyTimes: laid · TallyFixed: laid · TallyJoined: laid · TallyKnown: laid.
  DERIVED. THE GIVEN ROWS OF THIS SEAT. 13 by the template 'for every input the law returns true; each argument reads behind the call as it read before'; 0 by the template 'total and deterministic' (their statements: YtcbhnhoicecnnaaDoorTotals.lean).
  GIVEN WITH THE SEED: the statements are not yours to turn. If you find one false, say at which input.
  Laid BY PROGRAM, IN A SANDBOX (cutbox-rows.mjs): the forced cells as the released guide's own fill.sh prints them over the translation 53772391cfeae3d3… (all of the seat's roots in one cut). By AI agents, Wed Nov 11 2026. No macro, syntax, notation, axiom, sorry.
-/
import Derived.Test.YtcbhnhoicecnnaaDoorChecked
import GoSem.Claim
import GoSem.ClaimJoined
import GoSem.ClaimMapViews
import Derived.JoinedTies
import Derived.KernelRfl
namespace Go.Proofs.YtcbhnhoicecnnaaDoor
/- THE CELL 'sum', in the pinned program and in every row, IS THE sha256 OF THE DUMP (.gsa) THAT YtcbhnhoicecnnaaDoorProg.lean LOADS. Nothing in Lean hashes anything: it is a label: what it is worth is what the hold of that sum in a sandbox is worth. -/
noncomputable def Tryd.pinned : Pinned := { name := "ytcbhnhoicecnnaadoor", sum := "53772391cfeae3d3d365d9b0a62288af825aa81942420cc8bb1ef312e6ddfc2f", checked := Tryd.checked }
namespace Rows
def none {H : Type} : Left H := { results := [], args := [] }

/- WHAT THE LISTED PACKAGE-LEVEL VARIABLES READ AS WHEN THE CALL BEGINS. Each datum BY PROGRAM (the guide's laid-datum.mjs) off the statement by which the dump's own 'gosem.cut.vars' lays the variable. In a bare row this is a premise. The card (YtcbhnhoicecnnaaDoorCards.lean) ties it to the program's text. -/
def laid_peavey_tally_gate {H : Type} : DataW H := .agg [.lit (.int .i64 0), .lit (.int .i64 0)]
def laid_peavey_tally_boom {H : Type} : DataW H := .agg [.lit (.int .i64 3), .lit (.int .i64 0)]

/-- 'peaveylaw11.TallySheets': WHATEVER THE INPUT: true; the input reads as it did. -/
def tallySheetsSpec : ChangeSpec := { name := "tallySheets", fn := fun _ => fun
  | [d1, d2] => { results := [.lit (.bool true)], args := [d1, d2] }
  | _ => none }
def tallySheetsRow : OpenClaim := { program := "ytcbhnhoicecnnaadoor", sum := "53772391cfeae3d3d365d9b0a62288af825aa81942420cc8bb1ef312e6ddfc2f", func := "peavey/peaveylaw11.TallySheets", spec := "tallySheets", unfollowed := true, recurses := true, named := ["peavey/tally.gate", "peavey/tally.boom"], plainKeys := false, apart := false, laid := [("peavey/tally.gate", laid_peavey_tally_gate), ("peavey/tally.boom", laid_peavey_tally_boom)] }
def TallySheetsSaid : Prop := tallySheetsRow.holds Tryd.pinned (OpenSpec.ofChange tallySheetsSpec)

/-- ITS FALSE NEIGHBOUR: 'it returns false'. Refute it at one input. -/
def tallySheetsWrong : ChangeSpec := { name := "tallySheets", fn := fun _ => fun
  | [d1, d2] => { results := [.lit (.bool false)], args := [d1, d2] }
  | _ => none }
def TallySheetsWrongFalsely : Prop := tallySheetsRow.holds Tryd.pinned (OpenSpec.ofChange tallySheetsWrong)

/-- 'peaveylaw11.TallyWeights': WHATEVER THE INPUT: true; the input reads as it did. -/
def tallyWeightsSpec : ChangeSpec := { name := "tallyWeights", fn := fun _ => fun
  | [d1, d2] => { results := [.lit (.bool true)], args := [d1, d2] }
  | _ => none }
def tallyWeightsRow : OpenClaim := { program := "ytcbhnhoicecnnaadoor", sum := "53772391cfeae3d3d365d9b0a62288af825aa81942420cc8bb1ef312e6ddfc2f", func := "peavey/peaveylaw11.TallyWeights", spec := "tallyWeights", unfollowed := true, recurses := true, named := ["peavey/tally.gate", "peavey/tally.boom"], plainKeys := false, apart := false, laid := [("peavey/tally.gate", laid_peavey_tally_gate), ("peavey/tally.boom", laid_peavey_tally_boom)] }
def TallyWeightsSaid : Prop := tallyWeightsRow.holds Tryd.pinned (OpenSpec.ofChange tallyWeightsSpec)

/-- ITS FALSE NEIGHBOUR: 'it returns false'. Refute it at one input. -/
def tallyWeightsWrong : ChangeSpec := { name := "tallyWeights", fn := fun _ => fun
  | [d1, d2] => { results := [.lit (.bool false)], args := [d1, d2] }
  | _ => none }
def TallyWeightsWrongFalsely : Prop := tallyWeightsRow.holds Tryd.pinned (OpenSpec.ofChange tallyWeightsWrong)

/-- 'peaveylaw11.TallyOffs': WHATEVER THE INPUT: true; the input reads as it did. -/
def tallyOffsSpec : ChangeSpec := { name := "tallyOffs", fn := fun _ => fun
  | [d] => { results := [.lit (.bool true)], args := [d] }
  | _ => none }
def tallyOffsRow : OpenClaim := { program := "ytcbhnhoicecnnaadoor", sum := "53772391cfeae3d3d365d9b0a62288af825aa81942420cc8bb1ef312e6ddfc2f", func := "peavey/peaveylaw11.TallyOffs", spec := "tallyOffs", unfollowed := true, recurses := true, named := ["peavey/tally.gate", "peavey/tally.boom"], plainKeys := false, apart := false, laid := [("peavey/tally.gate", laid_peavey_tally_gate), ("peavey/tally.boom", laid_peavey_tally_boom)] }
def TallyOffsSaid : Prop := tallyOffsRow.holds Tryd.pinned (OpenSpec.ofChange tallyOffsSpec)

/-- ITS FALSE NEIGHBOUR: 'it returns false'. Refute it at one input. -/
def tallyOffsWrong : ChangeSpec := { name := "tallyOffs", fn := fun _ => fun
  | [d] => { results := [.lit (.bool false)], args := [d] }
  | _ => none }
def TallyOffsWrongFalsely : Prop := tallyOffsRow.holds Tryd.pinned (OpenSpec.ofChange tallyOffsWrong)

/-- 'peaveylaw11.TallySpans': WHATEVER THE INPUT: true; the input reads as it did. -/
def tallySpansSpec : ChangeSpec := { name := "tallySpans", fn := fun _ => fun
  | [d1, d2, d3] => { results := [.lit (.bool true)], args := [d1, d2, d3] }
  | _ => none }
def tallySpansRow : OpenClaim := { program := "ytcbhnhoicecnnaadoor", sum := "53772391cfeae3d3d365d9b0a62288af825aa81942420cc8bb1ef312e6ddfc2f", func := "peavey/peaveylaw11.TallySpans", spec := "tallySpans", unfollowed := true, recurses := true, named := ["peavey/tally.gate", "peavey/tally.boom"], plainKeys := false, apart := false, laid := [("peavey/tally.gate", laid_peavey_tally_gate), ("peavey/tally.boom", laid_peavey_tally_boom)] }
def TallySpansSaid : Prop := tallySpansRow.holds Tryd.pinned (OpenSpec.ofChange tallySpansSpec)

/-- ITS FALSE NEIGHBOUR: 'it returns false'. Refute it at one input. -/
def tallySpansWrong : ChangeSpec := { name := "tallySpans", fn := fun _ => fun
  | [d1, d2, d3] => { results := [.lit (.bool false)], args := [d1, d2, d3] }
  | _ => none }
def TallySpansWrongFalsely : Prop := tallySpansRow.holds Tryd.pinned (OpenSpec.ofChange tallySpansWrong)

/-- 'peaveylaw11.TallyProved': WHATEVER THE INPUT: true; the input reads as it did. -/
def tallyProvedSpec : ChangeSpec := { name := "tallyProved", fn := fun _ => fun
  | [d1, d2, d3] => { results := [.lit (.bool true)], args := [d1, d2, d3] }
  | _ => none }
def tallyProvedRow : OpenClaim := { program := "ytcbhnhoicecnnaadoor", sum := "53772391cfeae3d3d365d9b0a62288af825aa81942420cc8bb1ef312e6ddfc2f", func := "peavey/peaveylaw11.TallyProved", spec := "tallyProved", unfollowed := true, recurses := true, named := ["peavey/tally.gate", "peavey/tally.boom"], plainKeys := false, apart := false, laid := [("peavey/tally.gate", laid_peavey_tally_gate), ("peavey/tally.boom", laid_peavey_tally_boom)] }
def TallyProvedSaid : Prop := tallyProvedRow.holds Tryd.pinned (OpenSpec.ofChange tallyProvedSpec)

/-- ITS FALSE NEIGHBOUR: 'it returns false'. Refute it at one input. -/
def tallyProvedWrong : ChangeSpec := { name := "tallyProved", fn := fun _ => fun
  | [d1, d2, d3] => { results := [.lit (.bool false)], args := [d1, d2, d3] }
  | _ => none }
def TallyProvedWrongFalsely : Prop := tallyProvedRow.holds Tryd.pinned (OpenSpec.ofChange tallyProvedWrong)

/-- 'peaveylaw11.TallyEither': WHATEVER THE INPUT: true; the input reads as it did. -/
def tallyEitherSpec : ChangeSpec := { name := "tallyEither", fn := fun _ => fun
  | [d1, d2, d3] => { results := [.lit (.bool true)], args := [d1, d2, d3] }
  | _ => none }
def tallyEitherRow : OpenClaim := { program := "ytcbhnhoicecnnaadoor", sum := "53772391cfeae3d3d365d9b0a62288af825aa81942420cc8bb1ef312e6ddfc2f", func := "peavey/peaveylaw11.TallyEither", spec := "tallyEither", unfollowed := true, recurses := true, named := ["peavey/tally.gate", "peavey/tally.boom"], plainKeys := false, apart := false, laid := [("peavey/tally.gate", laid_peavey_tally_gate), ("peavey/tally.boom", laid_peavey_tally_boom)] }
def TallyEitherSaid : Prop := tallyEitherRow.holds Tryd.pinned (OpenSpec.ofChange tallyEitherSpec)

/-- ITS FALSE NEIGHBOUR: 'it returns false'. Refute it at one input. -/
def tallyEitherWrong : ChangeSpec := { name := "tallyEither", fn := fun _ => fun
  | [d1, d2, d3] => { results := [.lit (.bool false)], args := [d1, d2, d3] }
  | _ => none }
def TallyEitherWrongFalsely : Prop := tallyEitherRow.holds Tryd.pinned (OpenSpec.ofChange tallyEitherWrong)

/-- 'peaveylaw11.TallySpanned': WHATEVER THE INPUT: true; the input reads as it did. -/
def tallySpannedSpec : ChangeSpec := { name := "tallySpanned", fn := fun _ => fun
  | [d1, d2, d3] => { results := [.lit (.bool true)], args := [d1, d2, d3] }
  | _ => none }
def tallySpannedRow : OpenClaim := { program := "ytcbhnhoicecnnaadoor", sum := "53772391cfeae3d3d365d9b0a62288af825aa81942420cc8bb1ef312e6ddfc2f", func := "peavey/peaveylaw11.TallySpanned", spec := "tallySpanned", unfollowed := true, recurses := true, named := ["peavey/tally.gate", "peavey/tally.boom"], plainKeys := false, apart := false, laid := [("peavey/tally.gate", laid_peavey_tally_gate), ("peavey/tally.boom", laid_peavey_tally_boom)] }
def TallySpannedSaid : Prop := tallySpannedRow.holds Tryd.pinned (OpenSpec.ofChange tallySpannedSpec)

/-- ITS FALSE NEIGHBOUR: 'it returns false'. Refute it at one input. -/
def tallySpannedWrong : ChangeSpec := { name := "tallySpanned", fn := fun _ => fun
  | [d1, d2, d3] => { results := [.lit (.bool false)], args := [d1, d2, d3] }
  | _ => none }
def TallySpannedWrongFalsely : Prop := tallySpannedRow.holds Tryd.pinned (OpenSpec.ofChange tallySpannedWrong)

/-- 'peaveylaw11.TallyNarrower': WHATEVER THE INPUT: true; the input reads as it did. -/
def tallyNarrowerSpec : ChangeSpec := { name := "tallyNarrower", fn := fun _ => fun
  | [d1, d2, d3, d4, d5] => { results := [.lit (.bool true)], args := [d1, d2, d3, d4, d5] }
  | _ => none }
def tallyNarrowerRow : OpenClaim := { program := "ytcbhnhoicecnnaadoor", sum := "53772391cfeae3d3d365d9b0a62288af825aa81942420cc8bb1ef312e6ddfc2f", func := "peavey/peaveylaw11.TallyNarrower", spec := "tallyNarrower", unfollowed := true, recurses := true, named := ["peavey/tally.gate", "peavey/tally.boom"], plainKeys := false, apart := false, laid := [("peavey/tally.gate", laid_peavey_tally_gate), ("peavey/tally.boom", laid_peavey_tally_boom)] }
def TallyNarrowerSaid : Prop := tallyNarrowerRow.holds Tryd.pinned (OpenSpec.ofChange tallyNarrowerSpec)

/-- ITS FALSE NEIGHBOUR: 'it returns false'. Refute it at one input. -/
def tallyNarrowerWrong : ChangeSpec := { name := "tallyNarrower", fn := fun _ => fun
  | [d1, d2, d3, d4, d5] => { results := [.lit (.bool false)], args := [d1, d2, d3, d4, d5] }
  | _ => none }
def TallyNarrowerWrongFalsely : Prop := tallyNarrowerRow.holds Tryd.pinned (OpenSpec.ofChange tallyNarrowerWrong)

/-- 'peaveylaw11.TallyTurned': WHATEVER THE INPUT: true; the input reads as it did. -/
def tallyTurnedSpec : ChangeSpec := { name := "tallyTurned", fn := fun _ => fun
  | [d1, d2, d3, d4] => { results := [.lit (.bool true)], args := [d1, d2, d3, d4] }
  | _ => none }
def tallyTurnedRow : OpenClaim := { program := "ytcbhnhoicecnnaadoor", sum := "53772391cfeae3d3d365d9b0a62288af825aa81942420cc8bb1ef312e6ddfc2f", func := "peavey/peaveylaw11.TallyTurned", spec := "tallyTurned", unfollowed := true, recurses := true, named := ["peavey/tally.gate", "peavey/tally.boom"], plainKeys := false, apart := false, laid := [("peavey/tally.gate", laid_peavey_tally_gate), ("peavey/tally.boom", laid_peavey_tally_boom)] }
def TallyTurnedSaid : Prop := tallyTurnedRow.holds Tryd.pinned (OpenSpec.ofChange tallyTurnedSpec)

/-- ITS FALSE NEIGHBOUR: 'it returns false'. Refute it at one input. -/
def tallyTurnedWrong : ChangeSpec := { name := "tallyTurned", fn := fun _ => fun
  | [d1, d2, d3, d4] => { results := [.lit (.bool false)], args := [d1, d2, d3, d4] }
  | _ => none }
def TallyTurnedWrongFalsely : Prop := tallyTurnedRow.holds Tryd.pinned (OpenSpec.ofChange tallyTurnedWrong)

/-- 'peaveylaw11.TallyTimes': WHATEVER THE INPUT: true; the input reads as it did. -/
def tallyTimesSpec : ChangeSpec := { name := "tallyTimes", fn := fun _ => fun
  | [d1, d2, d3] => { results := [.lit (.bool true)], args := [d1, d2, d3] }
  | _ => none }
def tallyTimesRow : OpenClaim := { program := "ytcbhnhoicecnnaadoor", sum := "53772391cfeae3d3d365d9b0a62288af825aa81942420cc8bb1ef312e6ddfc2f", func := "peavey/peaveylaw11.TallyTimes", spec := "tallyTimes", unfollowed := true, recurses := true, named := ["peavey/tally.gate", "peavey/tally.boom"], plainKeys := false, apart := false, laid := [("peavey/tally.gate", laid_peavey_tally_gate), ("peavey/tally.boom", laid_peavey_tally_boom)] }
def TallyTimesSaid : Prop := tallyTimesRow.holds Tryd.pinned (OpenSpec.ofChange tallyTimesSpec)

/-- ITS FALSE NEIGHBOUR: 'it returns false'. Refute it at one input. -/
def tallyTimesWrong : ChangeSpec := { name := "tallyTimes", fn := fun _ => fun
  | [d1, d2, d3] => { results := [.lit (.bool false)], args := [d1, d2, d3] }
  | _ => none }
def TallyTimesWrongFalsely : Prop := tallyTimesRow.holds Tryd.pinned (OpenSpec.ofChange tallyTimesWrong)

/-- 'peaveylaw11.TallyFixed': WHATEVER THE INPUT: true; the input reads as it did. -/
def tallyFixedSpec : ChangeSpec := { name := "tallyFixed", fn := fun _ => fun
  | [d1, d2] => { results := [.lit (.bool true)], args := [d1, d2] }
  | _ => none }
def tallyFixedRow : OpenClaim := { program := "ytcbhnhoicecnnaadoor", sum := "53772391cfeae3d3d365d9b0a62288af825aa81942420cc8bb1ef312e6ddfc2f", func := "peavey/peaveylaw11.TallyFixed", spec := "tallyFixed", unfollowed := true, recurses := true, named := ["peavey/tally.gate", "peavey/tally.boom"], plainKeys := false, apart := false, laid := [("peavey/tally.gate", laid_peavey_tally_gate), ("peavey/tally.boom", laid_peavey_tally_boom)] }
def TallyFixedSaid : Prop := tallyFixedRow.holds Tryd.pinned (OpenSpec.ofChange tallyFixedSpec)

/-- ITS FALSE NEIGHBOUR: 'it returns false'. Refute it at one input. -/
def tallyFixedWrong : ChangeSpec := { name := "tallyFixed", fn := fun _ => fun
  | [d1, d2] => { results := [.lit (.bool false)], args := [d1, d2] }
  | _ => none }
def TallyFixedWrongFalsely : Prop := tallyFixedRow.holds Tryd.pinned (OpenSpec.ofChange tallyFixedWrong)

/-- 'peaveylaw11.TallyJoined': WHATEVER THE INPUT: true; the input reads as it did. -/
def tallyJoinedSpec : ChangeSpec := { name := "tallyJoined", fn := fun _ => fun
  | [d1, d2] => { results := [.lit (.bool true)], args := [d1, d2] }
  | _ => none }
def tallyJoinedRow : OpenClaim := { program := "ytcbhnhoicecnnaadoor", sum := "53772391cfeae3d3d365d9b0a62288af825aa81942420cc8bb1ef312e6ddfc2f", func := "peavey/peaveylaw11.TallyJoined", spec := "tallyJoined", unfollowed := true, recurses := true, named := ["peavey/tally.gate", "peavey/tally.boom"], plainKeys := false, apart := false, laid := [("peavey/tally.gate", laid_peavey_tally_gate), ("peavey/tally.boom", laid_peavey_tally_boom)] }
def TallyJoinedSaid : Prop := tallyJoinedRow.holds Tryd.pinned (OpenSpec.ofChange tallyJoinedSpec)

/-- ITS FALSE NEIGHBOUR: 'it returns false'. Refute it at one input. -/
def tallyJoinedWrong : ChangeSpec := { name := "tallyJoined", fn := fun _ => fun
  | [d1, d2] => { results := [.lit (.bool false)], args := [d1, d2] }
  | _ => none }
def TallyJoinedWrongFalsely : Prop := tallyJoinedRow.holds Tryd.pinned (OpenSpec.ofChange tallyJoinedWrong)

/-- 'peaveylaw11.TallyKnown': WHATEVER THE INPUT: true; the input reads as it did. -/
def tallyKnownSpec : ChangeSpec := { name := "tallyKnown", fn := fun _ => fun
  | [] => { results := [.lit (.bool true)], args := [] }
  | _ => none }
def tallyKnownRow : OpenClaim := { program := "ytcbhnhoicecnnaadoor", sum := "53772391cfeae3d3d365d9b0a62288af825aa81942420cc8bb1ef312e6ddfc2f", func := "peavey/peaveylaw11.TallyKnown", spec := "tallyKnown", unfollowed := true, recurses := true, named := ["peavey/tally.gate", "peavey/tally.boom"], plainKeys := false, apart := false, laid := [("peavey/tally.gate", laid_peavey_tally_gate), ("peavey/tally.boom", laid_peavey_tally_boom)] }
def TallyKnownSaid : Prop := tallyKnownRow.holds Tryd.pinned (OpenSpec.ofChange tallyKnownSpec)

/-- ITS FALSE NEIGHBOUR: 'it returns false'. Refute it at one input. -/
def tallyKnownWrong : ChangeSpec := { name := "tallyKnown", fn := fun _ => fun
  | [] => { results := [.lit (.bool false)], args := [] }
  | _ => none }
def TallyKnownWrongFalsely : Prop := tallyKnownRow.holds Tryd.pinned (OpenSpec.ofChange tallyKnownWrong)

/- THE SECOND FORM. 'bulk': how many values and letters a reading holds, each counted each time it is reached (what is shared counts as often as it is met; a slice's spare places count too). A statement '..UptoSaid' is the law's where the arguments, and the package variables that the reading takes, are together of bulk at most 1048576: NARROWER than '..Said'. Prove '..Said' where nothing that the law and all that it calls make is longer than what came in: it says more and counts as full. Else prove '..UptoSaid'. A law counts once. -/
mutual
def uptoBulk {H : Type} : DataW H → Nat
  | .lit (.string bytes) => bytes.length + 1
  | .lit _ => 1
  | .nil => 1
  | .ptr d => uptoBulk d + 1
  | .slice elems spare => uptoBulkAll elems + uptoBulkAll spare + 1
  | .agg parts => uptoBulkAll parts + 1
  | .iface _ d => uptoBulk d + 1
  | .map entries => uptoBulkEntries entries + 1
  | .held _ => 1
def uptoBulkAll {H : Type} : List (DataW H) → Nat
  | [] => 0
  | d :: r => uptoBulk d + uptoBulkAll r
def uptoBulkEntries {H : Type} : List (Lit × DataW H) → Nat
  | [] => 0
  | x :: r => uptoBulkEntry x + uptoBulkEntries r
def uptoBulkEntry {H : Type} : Lit × DataW H → Nat
  | (.string bytes, d) => bytes.length + uptoBulk d + 1
  | (_, d) => uptoBulk d + 1
 end
def uptoSmall : (H : Type) → List (DataW H) → Bool := fun _ ds => decide (uptoBulkAll ds ≤ 1048576)
def OpenSpec.upto (s : _root_.Go.ChangeSpec) : _root_.Go.OpenSpec := { _root_.Go.OpenSpec.ofChange s with cond := some uptoSmall }

/-- 'peaveylaw11.TallySheets', WHERE WHAT IT READS IS OF BULK AT MOST 1048576: true; the input reads as it did. -/
def tallySheetsUptoRow : OpenClaim := { program := "ytcbhnhoicecnnaadoor", sum := "53772391cfeae3d3d365d9b0a62288af825aa81942420cc8bb1ef312e6ddfc2f", func := "peavey/peaveylaw11.TallySheets", spec := "tallySheets", unfollowed := true, recurses := true, named := ["peavey/tally.gate", "peavey/tally.boom"], plainKeys := false, apart := false, laid := [("peavey/tally.gate", laid_peavey_tally_gate), ("peavey/tally.boom", laid_peavey_tally_boom)], narrowed := true }
def TallySheetsUptoSaid : Prop := tallySheetsUptoRow.holds Tryd.pinned (OpenSpec.upto tallySheetsSpec)

/-- 'peaveylaw11.TallyWeights', WHERE WHAT IT READS IS OF BULK AT MOST 1048576: true; the input reads as it did. -/
def tallyWeightsUptoRow : OpenClaim := { program := "ytcbhnhoicecnnaadoor", sum := "53772391cfeae3d3d365d9b0a62288af825aa81942420cc8bb1ef312e6ddfc2f", func := "peavey/peaveylaw11.TallyWeights", spec := "tallyWeights", unfollowed := true, recurses := true, named := ["peavey/tally.gate", "peavey/tally.boom"], plainKeys := false, apart := false, laid := [("peavey/tally.gate", laid_peavey_tally_gate), ("peavey/tally.boom", laid_peavey_tally_boom)], narrowed := true }
def TallyWeightsUptoSaid : Prop := tallyWeightsUptoRow.holds Tryd.pinned (OpenSpec.upto tallyWeightsSpec)

/-- 'peaveylaw11.TallyOffs', WHERE WHAT IT READS IS OF BULK AT MOST 1048576: true; the input reads as it did. -/
def tallyOffsUptoRow : OpenClaim := { program := "ytcbhnhoicecnnaadoor", sum := "53772391cfeae3d3d365d9b0a62288af825aa81942420cc8bb1ef312e6ddfc2f", func := "peavey/peaveylaw11.TallyOffs", spec := "tallyOffs", unfollowed := true, recurses := true, named := ["peavey/tally.gate", "peavey/tally.boom"], plainKeys := false, apart := false, laid := [("peavey/tally.gate", laid_peavey_tally_gate), ("peavey/tally.boom", laid_peavey_tally_boom)], narrowed := true }
def TallyOffsUptoSaid : Prop := tallyOffsUptoRow.holds Tryd.pinned (OpenSpec.upto tallyOffsSpec)

/-- 'peaveylaw11.TallySpans', WHERE WHAT IT READS IS OF BULK AT MOST 1048576: true; the input reads as it did. -/
def tallySpansUptoRow : OpenClaim := { program := "ytcbhnhoicecnnaadoor", sum := "53772391cfeae3d3d365d9b0a62288af825aa81942420cc8bb1ef312e6ddfc2f", func := "peavey/peaveylaw11.TallySpans", spec := "tallySpans", unfollowed := true, recurses := true, named := ["peavey/tally.gate", "peavey/tally.boom"], plainKeys := false, apart := false, laid := [("peavey/tally.gate", laid_peavey_tally_gate), ("peavey/tally.boom", laid_peavey_tally_boom)], narrowed := true }
def TallySpansUptoSaid : Prop := tallySpansUptoRow.holds Tryd.pinned (OpenSpec.upto tallySpansSpec)

/-- 'peaveylaw11.TallyProved', WHERE WHAT IT READS IS OF BULK AT MOST 1048576: true; the input reads as it did. -/
def tallyProvedUptoRow : OpenClaim := { program := "ytcbhnhoicecnnaadoor", sum := "53772391cfeae3d3d365d9b0a62288af825aa81942420cc8bb1ef312e6ddfc2f", func := "peavey/peaveylaw11.TallyProved", spec := "tallyProved", unfollowed := true, recurses := true, named := ["peavey/tally.gate", "peavey/tally.boom"], plainKeys := false, apart := false, laid := [("peavey/tally.gate", laid_peavey_tally_gate), ("peavey/tally.boom", laid_peavey_tally_boom)], narrowed := true }
def TallyProvedUptoSaid : Prop := tallyProvedUptoRow.holds Tryd.pinned (OpenSpec.upto tallyProvedSpec)

/-- 'peaveylaw11.TallyEither', WHERE WHAT IT READS IS OF BULK AT MOST 1048576: true; the input reads as it did. -/
def tallyEitherUptoRow : OpenClaim := { program := "ytcbhnhoicecnnaadoor", sum := "53772391cfeae3d3d365d9b0a62288af825aa81942420cc8bb1ef312e6ddfc2f", func := "peavey/peaveylaw11.TallyEither", spec := "tallyEither", unfollowed := true, recurses := true, named := ["peavey/tally.gate", "peavey/tally.boom"], plainKeys := false, apart := false, laid := [("peavey/tally.gate", laid_peavey_tally_gate), ("peavey/tally.boom", laid_peavey_tally_boom)], narrowed := true }
def TallyEitherUptoSaid : Prop := tallyEitherUptoRow.holds Tryd.pinned (OpenSpec.upto tallyEitherSpec)

/-- 'peaveylaw11.TallySpanned', WHERE WHAT IT READS IS OF BULK AT MOST 1048576: true; the input reads as it did. -/
def tallySpannedUptoRow : OpenClaim := { program := "ytcbhnhoicecnnaadoor", sum := "53772391cfeae3d3d365d9b0a62288af825aa81942420cc8bb1ef312e6ddfc2f", func := "peavey/peaveylaw11.TallySpanned", spec := "tallySpanned", unfollowed := true, recurses := true, named := ["peavey/tally.gate", "peavey/tally.boom"], plainKeys := false, apart := false, laid := [("peavey/tally.gate", laid_peavey_tally_gate), ("peavey/tally.boom", laid_peavey_tally_boom)], narrowed := true }
def TallySpannedUptoSaid : Prop := tallySpannedUptoRow.holds Tryd.pinned (OpenSpec.upto tallySpannedSpec)

/-- 'peaveylaw11.TallyNarrower', WHERE WHAT IT READS IS OF BULK AT MOST 1048576: true; the input reads as it did. -/
def tallyNarrowerUptoRow : OpenClaim := { program := "ytcbhnhoicecnnaadoor", sum := "53772391cfeae3d3d365d9b0a62288af825aa81942420cc8bb1ef312e6ddfc2f", func := "peavey/peaveylaw11.TallyNarrower", spec := "tallyNarrower", unfollowed := true, recurses := true, named := ["peavey/tally.gate", "peavey/tally.boom"], plainKeys := false, apart := false, laid := [("peavey/tally.gate", laid_peavey_tally_gate), ("peavey/tally.boom", laid_peavey_tally_boom)], narrowed := true }
def TallyNarrowerUptoSaid : Prop := tallyNarrowerUptoRow.holds Tryd.pinned (OpenSpec.upto tallyNarrowerSpec)

/-- 'peaveylaw11.TallyTurned', WHERE WHAT IT READS IS OF BULK AT MOST 1048576: true; the input reads as it did. -/
def tallyTurnedUptoRow : OpenClaim := { program := "ytcbhnhoicecnnaadoor", sum := "53772391cfeae3d3d365d9b0a62288af825aa81942420cc8bb1ef312e6ddfc2f", func := "peavey/peaveylaw11.TallyTurned", spec := "tallyTurned", unfollowed := true, recurses := true, named := ["peavey/tally.gate", "peavey/tally.boom"], plainKeys := false, apart := false, laid := [("peavey/tally.gate", laid_peavey_tally_gate), ("peavey/tally.boom", laid_peavey_tally_boom)], narrowed := true }
def TallyTurnedUptoSaid : Prop := tallyTurnedUptoRow.holds Tryd.pinned (OpenSpec.upto tallyTurnedSpec)

/-- 'peaveylaw11.TallyTimes', WHERE WHAT IT READS IS OF BULK AT MOST 1048576: true; the input reads as it did. -/
def tallyTimesUptoRow : OpenClaim := { program := "ytcbhnhoicecnnaadoor", sum := "53772391cfeae3d3d365d9b0a62288af825aa81942420cc8bb1ef312e6ddfc2f", func := "peavey/peaveylaw11.TallyTimes", spec := "tallyTimes", unfollowed := true, recurses := true, named := ["peavey/tally.gate", "peavey/tally.boom"], plainKeys := false, apart := false, laid := [("peavey/tally.gate", laid_peavey_tally_gate), ("peavey/tally.boom", laid_peavey_tally_boom)], narrowed := true }
def TallyTimesUptoSaid : Prop := tallyTimesUptoRow.holds Tryd.pinned (OpenSpec.upto tallyTimesSpec)

/-- 'peaveylaw11.TallyFixed', WHERE WHAT IT READS IS OF BULK AT MOST 1048576: true; the input reads as it did. -/
def tallyFixedUptoRow : OpenClaim := { program := "ytcbhnhoicecnnaadoor", sum := "53772391cfeae3d3d365d9b0a62288af825aa81942420cc8bb1ef312e6ddfc2f", func := "peavey/peaveylaw11.TallyFixed", spec := "tallyFixed", unfollowed := true, recurses := true, named := ["peavey/tally.gate", "peavey/tally.boom"], plainKeys := false, apart := false, laid := [("peavey/tally.gate", laid_peavey_tally_gate), ("peavey/tally.boom", laid_peavey_tally_boom)], narrowed := true }
def TallyFixedUptoSaid : Prop := tallyFixedUptoRow.holds Tryd.pinned (OpenSpec.upto tallyFixedSpec)

/-- 'peaveylaw11.TallyJoined', WHERE WHAT IT READS IS OF BULK AT MOST 1048576: true; the input reads as it did. -/
def tallyJoinedUptoRow : OpenClaim := { program := "ytcbhnhoicecnnaadoor", sum := "53772391cfeae3d3d365d9b0a62288af825aa81942420cc8bb1ef312e6ddfc2f", func := "peavey/peaveylaw11.TallyJoined", spec := "tallyJoined", unfollowed := true, recurses := true, named := ["peavey/tally.gate", "peavey/tally.boom"], plainKeys := false, apart := false, laid := [("peavey/tally.gate", laid_peavey_tally_gate), ("peavey/tally.boom", laid_peavey_tally_boom)], narrowed := true }
def TallyJoinedUptoSaid : Prop := tallyJoinedUptoRow.holds Tryd.pinned (OpenSpec.upto tallyJoinedSpec)

/-- 'peaveylaw11.TallyKnown', WHERE WHAT IT READS IS OF BULK AT MOST 1048576: true; the input reads as it did. -/
def tallyKnownUptoRow : OpenClaim := { program := "ytcbhnhoicecnnaadoor", sum := "53772391cfeae3d3d365d9b0a62288af825aa81942420cc8bb1ef312e6ddfc2f", func := "peavey/peaveylaw11.TallyKnown", spec := "tallyKnown", unfollowed := true, recurses := true, named := ["peavey/tally.gate", "peavey/tally.boom"], plainKeys := false, apart := false, laid := [("peavey/tally.gate", laid_peavey_tally_gate), ("peavey/tally.boom", laid_peavey_tally_boom)], narrowed := true }
def TallyKnownUptoSaid : Prop := tallyKnownUptoRow.holds Tryd.pinned (OpenSpec.upto tallyKnownSpec)

end Rows
end Go.Proofs.YtcbhnhoicecnnaaDoor
