/-
  DERIVED. GIVEN WITH THE SEED: THE CARDS: each row of YtcbhnhoicecnnaaDoorRows.lean that lists a variable, with what it lists TIED to the program's text (the seventh form; the later family's looks); each row that meets fmt, with fmt's text TOLD by the authors' own Lean function (tested against real Go, not proved from fmt's source: count such statements apart). THE CARD IS WHAT COUNTS. Prove the row's statement (the work); the ties are given (YtcbhnhoicecnnaaDoorTie.lean); close each card by the builder's one call (the guide's Derived/Test/ToyasCard.lean, 'card_holds'). Laid BY PROGRAM, IN A SANDBOX (cutbox-door.mjs). By AI agents, Wed Nov 11 2026. No macro, syntax, notation, axiom, sorry.
-/
import Derived.Test.YtcbhnhoicecnnaaDoorRows
import GoSem.ClaimSeven
namespace Go.Proofs.YtcbhnhoicecnnaaDoor
namespace Rows

/-- THE TIED CARD OF 'peaveylaw11.TallySheets'. -/
def tallySheetsCard : Claim7 := { stood := { row := tallySheetsRow, standIns := [], harness := (true, "5e491ff97e15d9dbeef380c8e43fae43eecb164c938dba20fa664fd619ea33c3"), looks := false }, kinds := [], alts := [], laidByText := true, laidKinds := [.data, .data], laidTests := true, laidLooks := .later }
def TallySheetsCardSaid : Prop := Claim7.holds Tryd.pinned (.plain (OpenSpec.ofChange tallySheetsSpec)) tallySheetsCard

/-- THE TIED CARD OF 'peaveylaw11.TallyWeights'. -/
def tallyWeightsCard : Claim7 := { stood := { row := tallyWeightsRow, standIns := [], harness := (true, "5e491ff97e15d9dbeef380c8e43fae43eecb164c938dba20fa664fd619ea33c3"), looks := false }, kinds := [], alts := [], laidByText := true, laidKinds := [.data, .data], laidTests := true, laidLooks := .later }
def TallyWeightsCardSaid : Prop := Claim7.holds Tryd.pinned (.plain (OpenSpec.ofChange tallyWeightsSpec)) tallyWeightsCard

/-- THE TIED CARD OF 'peaveylaw11.TallyOffs'. -/
def tallyOffsCard : Claim7 := { stood := { row := tallyOffsRow, standIns := [], harness := (true, "5e491ff97e15d9dbeef380c8e43fae43eecb164c938dba20fa664fd619ea33c3"), looks := false }, kinds := [], alts := [], laidByText := true, laidKinds := [.data, .data], laidTests := true, laidLooks := .later }
def TallyOffsCardSaid : Prop := Claim7.holds Tryd.pinned (.plain (OpenSpec.ofChange tallyOffsSpec)) tallyOffsCard

/-- THE TIED CARD OF 'peaveylaw11.TallySpans'. -/
def tallySpansCard : Claim7 := { stood := { row := tallySpansRow, standIns := [], harness := (true, "5e491ff97e15d9dbeef380c8e43fae43eecb164c938dba20fa664fd619ea33c3"), looks := false }, kinds := [], alts := [], laidByText := true, laidKinds := [.data, .data], laidTests := true, laidLooks := .later }
def TallySpansCardSaid : Prop := Claim7.holds Tryd.pinned (.plain (OpenSpec.ofChange tallySpansSpec)) tallySpansCard

/-- THE TIED CARD OF 'peaveylaw11.TallyProved'. -/
def tallyProvedCard : Claim7 := { stood := { row := tallyProvedRow, standIns := [], harness := (true, "5e491ff97e15d9dbeef380c8e43fae43eecb164c938dba20fa664fd619ea33c3"), looks := false }, kinds := [], alts := [], laidByText := true, laidKinds := [.data, .data], laidTests := true, laidLooks := .later }
def TallyProvedCardSaid : Prop := Claim7.holds Tryd.pinned (.plain (OpenSpec.ofChange tallyProvedSpec)) tallyProvedCard

/-- THE TIED CARD OF 'peaveylaw11.TallyEither'. -/
def tallyEitherCard : Claim7 := { stood := { row := tallyEitherRow, standIns := [], harness := (true, "5e491ff97e15d9dbeef380c8e43fae43eecb164c938dba20fa664fd619ea33c3"), looks := false }, kinds := [], alts := [], laidByText := true, laidKinds := [.data, .data], laidTests := true, laidLooks := .later }
def TallyEitherCardSaid : Prop := Claim7.holds Tryd.pinned (.plain (OpenSpec.ofChange tallyEitherSpec)) tallyEitherCard

/-- THE TIED CARD OF 'peaveylaw11.TallySpanned'. -/
def tallySpannedCard : Claim7 := { stood := { row := tallySpannedRow, standIns := [], harness := (true, "5e491ff97e15d9dbeef380c8e43fae43eecb164c938dba20fa664fd619ea33c3"), looks := false }, kinds := [], alts := [], laidByText := true, laidKinds := [.data, .data], laidTests := true, laidLooks := .later }
def TallySpannedCardSaid : Prop := Claim7.holds Tryd.pinned (.plain (OpenSpec.ofChange tallySpannedSpec)) tallySpannedCard

/-- THE TIED CARD OF 'peaveylaw11.TallyNarrower'. -/
def tallyNarrowerCard : Claim7 := { stood := { row := tallyNarrowerRow, standIns := [], harness := (true, "5e491ff97e15d9dbeef380c8e43fae43eecb164c938dba20fa664fd619ea33c3"), looks := false }, kinds := [], alts := [], laidByText := true, laidKinds := [.data, .data], laidTests := true, laidLooks := .later }
def TallyNarrowerCardSaid : Prop := Claim7.holds Tryd.pinned (.plain (OpenSpec.ofChange tallyNarrowerSpec)) tallyNarrowerCard

/-- THE TIED CARD OF 'peaveylaw11.TallyTurned'. -/
def tallyTurnedCard : Claim7 := { stood := { row := tallyTurnedRow, standIns := [], harness := (true, "5e491ff97e15d9dbeef380c8e43fae43eecb164c938dba20fa664fd619ea33c3"), looks := false }, kinds := [], alts := [], laidByText := true, laidKinds := [.data, .data], laidTests := true, laidLooks := .later }
def TallyTurnedCardSaid : Prop := Claim7.holds Tryd.pinned (.plain (OpenSpec.ofChange tallyTurnedSpec)) tallyTurnedCard

/-- THE TIED CARD OF 'peaveylaw11.TallyTimes'. -/
def tallyTimesCard : Claim7 := { stood := { row := tallyTimesRow, standIns := [], harness := (true, "5e491ff97e15d9dbeef380c8e43fae43eecb164c938dba20fa664fd619ea33c3"), looks := false }, kinds := [], alts := [], laidByText := true, laidKinds := [.data, .data], laidTests := true, laidLooks := .later }
def TallyTimesCardSaid : Prop := Claim7.holds Tryd.pinned (.plain (OpenSpec.ofChange tallyTimesSpec)) tallyTimesCard

/-- THE TIED CARD OF 'peaveylaw11.TallyFixed'. -/
def tallyFixedCard : Claim7 := { stood := { row := tallyFixedRow, standIns := [], harness := (true, "5e491ff97e15d9dbeef380c8e43fae43eecb164c938dba20fa664fd619ea33c3"), looks := false }, kinds := [], alts := [], laidByText := true, laidKinds := [.data, .data], laidTests := true, laidLooks := .later }
def TallyFixedCardSaid : Prop := Claim7.holds Tryd.pinned (.plain (OpenSpec.ofChange tallyFixedSpec)) tallyFixedCard

/-- THE TIED CARD OF 'peaveylaw11.TallyJoined'. -/
def tallyJoinedCard : Claim7 := { stood := { row := tallyJoinedRow, standIns := [], harness := (true, "5e491ff97e15d9dbeef380c8e43fae43eecb164c938dba20fa664fd619ea33c3"), looks := false }, kinds := [], alts := [], laidByText := true, laidKinds := [.data, .data], laidTests := true, laidLooks := .later }
def TallyJoinedCardSaid : Prop := Claim7.holds Tryd.pinned (.plain (OpenSpec.ofChange tallyJoinedSpec)) tallyJoinedCard

/-- THE TIED CARD OF 'peaveylaw11.TallyKnown'. -/
def tallyKnownCard : Claim7 := { stood := { row := tallyKnownRow, standIns := [], harness := (true, "5e491ff97e15d9dbeef380c8e43fae43eecb164c938dba20fa664fd619ea33c3"), looks := false }, kinds := [], alts := [], laidByText := true, laidKinds := [.data, .data], laidTests := true, laidLooks := .later }
def TallyKnownCardSaid : Prop := Claim7.holds Tryd.pinned (.plain (OpenSpec.ofChange tallyKnownSpec)) tallyKnownCard

/-- THE SECOND FORM's CARD OF 'peaveylaw11.TallySheets'. -/
def tallySheetsUptoCard : Claim7 := { stood := { row := tallySheetsUptoRow, standIns := [], harness := (true, "5e491ff97e15d9dbeef380c8e43fae43eecb164c938dba20fa664fd619ea33c3"), looks := false }, kinds := [], alts := [], laidByText := true, laidKinds := [.data, .data], laidTests := true, laidLooks := .later }
def TallySheetsUptoCardSaid : Prop := Claim7.holds Tryd.pinned (.plain (OpenSpec.upto tallySheetsSpec)) tallySheetsUptoCard

/-- THE SECOND FORM's CARD OF 'peaveylaw11.TallyWeights'. -/
def tallyWeightsUptoCard : Claim7 := { stood := { row := tallyWeightsUptoRow, standIns := [], harness := (true, "5e491ff97e15d9dbeef380c8e43fae43eecb164c938dba20fa664fd619ea33c3"), looks := false }, kinds := [], alts := [], laidByText := true, laidKinds := [.data, .data], laidTests := true, laidLooks := .later }
def TallyWeightsUptoCardSaid : Prop := Claim7.holds Tryd.pinned (.plain (OpenSpec.upto tallyWeightsSpec)) tallyWeightsUptoCard

/-- THE SECOND FORM's CARD OF 'peaveylaw11.TallyOffs'. -/
def tallyOffsUptoCard : Claim7 := { stood := { row := tallyOffsUptoRow, standIns := [], harness := (true, "5e491ff97e15d9dbeef380c8e43fae43eecb164c938dba20fa664fd619ea33c3"), looks := false }, kinds := [], alts := [], laidByText := true, laidKinds := [.data, .data], laidTests := true, laidLooks := .later }
def TallyOffsUptoCardSaid : Prop := Claim7.holds Tryd.pinned (.plain (OpenSpec.upto tallyOffsSpec)) tallyOffsUptoCard

/-- THE SECOND FORM's CARD OF 'peaveylaw11.TallySpans'. -/
def tallySpansUptoCard : Claim7 := { stood := { row := tallySpansUptoRow, standIns := [], harness := (true, "5e491ff97e15d9dbeef380c8e43fae43eecb164c938dba20fa664fd619ea33c3"), looks := false }, kinds := [], alts := [], laidByText := true, laidKinds := [.data, .data], laidTests := true, laidLooks := .later }
def TallySpansUptoCardSaid : Prop := Claim7.holds Tryd.pinned (.plain (OpenSpec.upto tallySpansSpec)) tallySpansUptoCard

/-- THE SECOND FORM's CARD OF 'peaveylaw11.TallyProved'. -/
def tallyProvedUptoCard : Claim7 := { stood := { row := tallyProvedUptoRow, standIns := [], harness := (true, "5e491ff97e15d9dbeef380c8e43fae43eecb164c938dba20fa664fd619ea33c3"), looks := false }, kinds := [], alts := [], laidByText := true, laidKinds := [.data, .data], laidTests := true, laidLooks := .later }
def TallyProvedUptoCardSaid : Prop := Claim7.holds Tryd.pinned (.plain (OpenSpec.upto tallyProvedSpec)) tallyProvedUptoCard

/-- THE SECOND FORM's CARD OF 'peaveylaw11.TallyEither'. -/
def tallyEitherUptoCard : Claim7 := { stood := { row := tallyEitherUptoRow, standIns := [], harness := (true, "5e491ff97e15d9dbeef380c8e43fae43eecb164c938dba20fa664fd619ea33c3"), looks := false }, kinds := [], alts := [], laidByText := true, laidKinds := [.data, .data], laidTests := true, laidLooks := .later }
def TallyEitherUptoCardSaid : Prop := Claim7.holds Tryd.pinned (.plain (OpenSpec.upto tallyEitherSpec)) tallyEitherUptoCard

/-- THE SECOND FORM's CARD OF 'peaveylaw11.TallySpanned'. -/
def tallySpannedUptoCard : Claim7 := { stood := { row := tallySpannedUptoRow, standIns := [], harness := (true, "5e491ff97e15d9dbeef380c8e43fae43eecb164c938dba20fa664fd619ea33c3"), looks := false }, kinds := [], alts := [], laidByText := true, laidKinds := [.data, .data], laidTests := true, laidLooks := .later }
def TallySpannedUptoCardSaid : Prop := Claim7.holds Tryd.pinned (.plain (OpenSpec.upto tallySpannedSpec)) tallySpannedUptoCard

/-- THE SECOND FORM's CARD OF 'peaveylaw11.TallyNarrower'. -/
def tallyNarrowerUptoCard : Claim7 := { stood := { row := tallyNarrowerUptoRow, standIns := [], harness := (true, "5e491ff97e15d9dbeef380c8e43fae43eecb164c938dba20fa664fd619ea33c3"), looks := false }, kinds := [], alts := [], laidByText := true, laidKinds := [.data, .data], laidTests := true, laidLooks := .later }
def TallyNarrowerUptoCardSaid : Prop := Claim7.holds Tryd.pinned (.plain (OpenSpec.upto tallyNarrowerSpec)) tallyNarrowerUptoCard

/-- THE SECOND FORM's CARD OF 'peaveylaw11.TallyTurned'. -/
def tallyTurnedUptoCard : Claim7 := { stood := { row := tallyTurnedUptoRow, standIns := [], harness := (true, "5e491ff97e15d9dbeef380c8e43fae43eecb164c938dba20fa664fd619ea33c3"), looks := false }, kinds := [], alts := [], laidByText := true, laidKinds := [.data, .data], laidTests := true, laidLooks := .later }
def TallyTurnedUptoCardSaid : Prop := Claim7.holds Tryd.pinned (.plain (OpenSpec.upto tallyTurnedSpec)) tallyTurnedUptoCard

/-- THE SECOND FORM's CARD OF 'peaveylaw11.TallyTimes'. -/
def tallyTimesUptoCard : Claim7 := { stood := { row := tallyTimesUptoRow, standIns := [], harness := (true, "5e491ff97e15d9dbeef380c8e43fae43eecb164c938dba20fa664fd619ea33c3"), looks := false }, kinds := [], alts := [], laidByText := true, laidKinds := [.data, .data], laidTests := true, laidLooks := .later }
def TallyTimesUptoCardSaid : Prop := Claim7.holds Tryd.pinned (.plain (OpenSpec.upto tallyTimesSpec)) tallyTimesUptoCard

/-- THE SECOND FORM's CARD OF 'peaveylaw11.TallyFixed'. -/
def tallyFixedUptoCard : Claim7 := { stood := { row := tallyFixedUptoRow, standIns := [], harness := (true, "5e491ff97e15d9dbeef380c8e43fae43eecb164c938dba20fa664fd619ea33c3"), looks := false }, kinds := [], alts := [], laidByText := true, laidKinds := [.data, .data], laidTests := true, laidLooks := .later }
def TallyFixedUptoCardSaid : Prop := Claim7.holds Tryd.pinned (.plain (OpenSpec.upto tallyFixedSpec)) tallyFixedUptoCard

/-- THE SECOND FORM's CARD OF 'peaveylaw11.TallyJoined'. -/
def tallyJoinedUptoCard : Claim7 := { stood := { row := tallyJoinedUptoRow, standIns := [], harness := (true, "5e491ff97e15d9dbeef380c8e43fae43eecb164c938dba20fa664fd619ea33c3"), looks := false }, kinds := [], alts := [], laidByText := true, laidKinds := [.data, .data], laidTests := true, laidLooks := .later }
def TallyJoinedUptoCardSaid : Prop := Claim7.holds Tryd.pinned (.plain (OpenSpec.upto tallyJoinedSpec)) tallyJoinedUptoCard

/-- THE SECOND FORM's CARD OF 'peaveylaw11.TallyKnown'. -/
def tallyKnownUptoCard : Claim7 := { stood := { row := tallyKnownUptoRow, standIns := [], harness := (true, "5e491ff97e15d9dbeef380c8e43fae43eecb164c938dba20fa664fd619ea33c3"), looks := false }, kinds := [], alts := [], laidByText := true, laidKinds := [.data, .data], laidTests := true, laidLooks := .later }
def TallyKnownUptoCardSaid : Prop := Claim7.holds Tryd.pinned (.plain (OpenSpec.upto tallyKnownSpec)) tallyKnownUptoCard
end Rows
end Go.Proofs.YtcbhnhoicecnnaaDoor
