/-
  DERIVED. GIVEN WITH THE SEED: THE CARDS: each row of YtdagocpgefjmdaaDoorRows.lean that lists a variable, with what it lists TIED to the program's text (the seventh form; the later family's looks); each row that meets fmt, with fmt's text TOLD by the authors' own Lean function (tested against real Go, not proved from fmt's source: count such statements apart). THE CARD IS WHAT COUNTS. Prove the row's statement (the work); the ties are given (YtdagocpgefjmdaaDoorTie.lean); close each card by the builder's one call (the guide's Derived/Test/ToyasCard.lean, 'card_holds'). Laid BY PROGRAM, IN A SANDBOX (cutbox-door.mjs). By AI agents, Wed Nov 11 2026. No macro, syntax, notation, axiom, sorry.
-/
import Derived.Test.YtdagocpgefjmdaaDoorRows
import GoSem.ClaimSeven
namespace Go.Proofs.YtdagocpgefjmdaaDoor
namespace Rows

/-- THE TIED CARD OF 'gleelaw1.IntervalsCounted'. -/
def intervalsCountedCard : Claim7 := { stood := { row := intervalsCountedRow, standIns := [], harness := (true, "e3de868d504dca1c6d1aa592ccd03b1c223e52a4c7949e8a8099a8f52ece0a1a"), looks := true }, kinds := [], alts := [], laidByText := true, laidKinds := [.data, .data, .data], laidTests := true, laidLooks := .later }
def IntervalsCountedCardSaid : Prop := Claim7.holds Tryd.pinned (.plain (OpenSpec.ofChange intervalsCountedSpec)) intervalsCountedCard

/-- THE TIED CARD OF 'gleekeep1.WaysAreLegs'. -/
def waysAreLegsCard : Claim7 := { stood := { row := waysAreLegsRow, standIns := [], harness := (true, "e3de868d504dca1c6d1aa592ccd03b1c223e52a4c7949e8a8099a8f52ece0a1a"), looks := true }, kinds := [], alts := [], laidByText := true, laidKinds := [.data, .data, .data, .data, .pinned], laidTests := true, laidLooks := .later }
def WaysAreLegsCardSaid : Prop := Claim7.holds Tryd.pinned (.plain (OpenSpec.ofChange waysAreLegsSpec)) waysAreLegsCard

/-- THE TIED CARD OF 'gleekeep1.BusesHoldAll'. -/
def busesHoldAllCard : Claim7 := { stood := { row := busesHoldAllRow, standIns := [], harness := (true, "e3de868d504dca1c6d1aa592ccd03b1c223e52a4c7949e8a8099a8f52ece0a1a"), looks := true }, kinds := [], alts := [], laidByText := true, laidKinds := [.data, .data, .data, .data, .pinned], laidTests := true, laidLooks := .later }
def BusesHoldAllCardSaid : Prop := Claim7.holds Tryd.pinned (.plain (OpenSpec.ofChange busesHoldAllSpec)) busesHoldAllCard

/-- THE TIED CARD OF 'gleekeep1.WithinIsWithin'. -/
def withinIsWithinCard : Claim7 := { stood := { row := withinIsWithinRow, standIns := [], harness := (true, "e3de868d504dca1c6d1aa592ccd03b1c223e52a4c7949e8a8099a8f52ece0a1a"), looks := true }, kinds := [], alts := [], laidByText := true, laidKinds := [.data, .data, .data, .data, .pinned], laidTests := true, laidLooks := .later }
def WithinIsWithinCardSaid : Prop := Claim7.holds Tryd.pinned (.plain (OpenSpec.ofChange withinIsWithinSpec)) withinIsWithinCard

/-- THE TIED CARD OF 'gleelaw1.BusesFilled'. -/
def busesFilledCard : Claim7 := { stood := { row := busesFilledRow, standIns := [], harness := (true, "e3de868d504dca1c6d1aa592ccd03b1c223e52a4c7949e8a8099a8f52ece0a1a"), looks := true }, kinds := [], alts := [], laidByText := true, laidKinds := [.data, .data, .data, .data, .pinned], laidTests := true, laidLooks := .later }
def BusesFilledCardSaid : Prop := Claim7.holds Tryd.pinned (.plain (OpenSpec.ofChange busesFilledSpec)) busesFilledCard

/-- THE TIED CARD OF 'gleekeep1.ScalesTurnAround'. -/
def scalesTurnAroundCard : Claim7 := { stood := { row := scalesTurnAroundRow, standIns := [], harness := (true, "e3de868d504dca1c6d1aa592ccd03b1c223e52a4c7949e8a8099a8f52ece0a1a"), looks := true }, kinds := [], alts := [], laidByText := true, laidKinds := [.data, .data, .data, .data, .pinned], laidTests := true, laidLooks := .later }
def ScalesTurnAroundCardSaid : Prop := Claim7.holds Tryd.pinned (.plain (OpenSpec.ofChange scalesTurnAroundSpec)) scalesTurnAroundCard

/-- THE TIED CARD OF 'gleelaw1.MelodiesHeld'. -/
def melodiesHeldCard : Claim7 := { stood := { row := melodiesHeldRow, standIns := [], harness := (true, "e3de868d504dca1c6d1aa592ccd03b1c223e52a4c7949e8a8099a8f52ece0a1a"), looks := true }, kinds := [], alts := [], laidByText := true, laidKinds := [.data, .data, .data], laidTests := true, laidLooks := .later }
def MelodiesHeldCardSaid : Prop := Claim7.holds Tryd.pinned (.plain (OpenSpec.ofChange melodiesHeldSpec)) melodiesHeldCard

/-- THE TIED CARD OF 'gleelaw1.NotesNamed'. -/
def notesNamedCard : Claim7 := { stood := { row := notesNamedRow, standIns := [], harness := (true, "e3de868d504dca1c6d1aa592ccd03b1c223e52a4c7949e8a8099a8f52ece0a1a"), looks := true }, kinds := [], alts := [], laidByText := true, laidKinds := [.data, .data, .data, .data, .sentinel, .sentinel, .listed, .data, .pinned], laidTests := true, laidLooks := .later }
def NotesNamedCardSaid : Prop := Claim7.holds Tryd.pinned (.plain (OpenSpec.ofChange notesNamedSpec)) notesNamedCard

/-- THE TIED CARD OF 'gleetop.TopShiftedMelodies'. -/
def topShiftedMelodiesCard : Claim7 := { stood := { row := topShiftedMelodiesRow, standIns := [], harness := (true, "e3de868d504dca1c6d1aa592ccd03b1c223e52a4c7949e8a8099a8f52ece0a1a"), looks := true }, kinds := [], alts := [], laidByText := true, laidKinds := [.data, .data, .data, .data, .pinned], laidTests := true, laidLooks := .later }
def TopShiftedMelodiesCardSaid : Prop := Claim7.holds Tryd.pinned (.plain (OpenSpec.ofChange topShiftedMelodiesSpec)) topShiftedMelodiesCard

/-- THE SECOND FORM's CARD OF 'gleelaw1.IntervalsCounted'. -/
def intervalsCountedUptoCard : Claim7 := { stood := { row := intervalsCountedUptoRow, standIns := [], harness := (true, "e3de868d504dca1c6d1aa592ccd03b1c223e52a4c7949e8a8099a8f52ece0a1a"), looks := true }, kinds := [], alts := [], laidByText := true, laidKinds := [.data, .data, .data], laidTests := true, laidLooks := .later }
def IntervalsCountedUptoCardSaid : Prop := Claim7.holds Tryd.pinned (.plain (OpenSpec.upto intervalsCountedSpec)) intervalsCountedUptoCard

/-- THE SECOND FORM's CARD OF 'gleekeep1.WaysAreLegs'. -/
def waysAreLegsUptoCard : Claim7 := { stood := { row := waysAreLegsUptoRow, standIns := [], harness := (true, "e3de868d504dca1c6d1aa592ccd03b1c223e52a4c7949e8a8099a8f52ece0a1a"), looks := true }, kinds := [], alts := [], laidByText := true, laidKinds := [.data, .data, .data, .data, .pinned], laidTests := true, laidLooks := .later }
def WaysAreLegsUptoCardSaid : Prop := Claim7.holds Tryd.pinned (.plain (OpenSpec.upto waysAreLegsSpec)) waysAreLegsUptoCard

/-- THE SECOND FORM's CARD OF 'gleekeep1.BusesHoldAll'. -/
def busesHoldAllUptoCard : Claim7 := { stood := { row := busesHoldAllUptoRow, standIns := [], harness := (true, "e3de868d504dca1c6d1aa592ccd03b1c223e52a4c7949e8a8099a8f52ece0a1a"), looks := true }, kinds := [], alts := [], laidByText := true, laidKinds := [.data, .data, .data, .data, .pinned], laidTests := true, laidLooks := .later }
def BusesHoldAllUptoCardSaid : Prop := Claim7.holds Tryd.pinned (.plain (OpenSpec.upto busesHoldAllSpec)) busesHoldAllUptoCard

/-- THE SECOND FORM's CARD OF 'gleekeep1.WithinIsWithin'. -/
def withinIsWithinUptoCard : Claim7 := { stood := { row := withinIsWithinUptoRow, standIns := [], harness := (true, "e3de868d504dca1c6d1aa592ccd03b1c223e52a4c7949e8a8099a8f52ece0a1a"), looks := true }, kinds := [], alts := [], laidByText := true, laidKinds := [.data, .data, .data, .data, .pinned], laidTests := true, laidLooks := .later }
def WithinIsWithinUptoCardSaid : Prop := Claim7.holds Tryd.pinned (.plain (OpenSpec.upto withinIsWithinSpec)) withinIsWithinUptoCard

/-- THE SECOND FORM's CARD OF 'gleelaw1.BusesFilled'. -/
def busesFilledUptoCard : Claim7 := { stood := { row := busesFilledUptoRow, standIns := [], harness := (true, "e3de868d504dca1c6d1aa592ccd03b1c223e52a4c7949e8a8099a8f52ece0a1a"), looks := true }, kinds := [], alts := [], laidByText := true, laidKinds := [.data, .data, .data, .data, .pinned], laidTests := true, laidLooks := .later }
def BusesFilledUptoCardSaid : Prop := Claim7.holds Tryd.pinned (.plain (OpenSpec.upto busesFilledSpec)) busesFilledUptoCard

/-- THE SECOND FORM's CARD OF 'gleekeep1.ScalesTurnAround'. -/
def scalesTurnAroundUptoCard : Claim7 := { stood := { row := scalesTurnAroundUptoRow, standIns := [], harness := (true, "e3de868d504dca1c6d1aa592ccd03b1c223e52a4c7949e8a8099a8f52ece0a1a"), looks := true }, kinds := [], alts := [], laidByText := true, laidKinds := [.data, .data, .data, .data, .pinned], laidTests := true, laidLooks := .later }
def ScalesTurnAroundUptoCardSaid : Prop := Claim7.holds Tryd.pinned (.plain (OpenSpec.upto scalesTurnAroundSpec)) scalesTurnAroundUptoCard

/-- THE SECOND FORM's CARD OF 'gleelaw1.MelodiesHeld'. -/
def melodiesHeldUptoCard : Claim7 := { stood := { row := melodiesHeldUptoRow, standIns := [], harness := (true, "e3de868d504dca1c6d1aa592ccd03b1c223e52a4c7949e8a8099a8f52ece0a1a"), looks := true }, kinds := [], alts := [], laidByText := true, laidKinds := [.data, .data, .data], laidTests := true, laidLooks := .later }
def MelodiesHeldUptoCardSaid : Prop := Claim7.holds Tryd.pinned (.plain (OpenSpec.upto melodiesHeldSpec)) melodiesHeldUptoCard

/-- THE SECOND FORM's CARD OF 'gleelaw1.NotesNamed'. -/
def notesNamedUptoCard : Claim7 := { stood := { row := notesNamedUptoRow, standIns := [], harness := (true, "e3de868d504dca1c6d1aa592ccd03b1c223e52a4c7949e8a8099a8f52ece0a1a"), looks := true }, kinds := [], alts := [], laidByText := true, laidKinds := [.data, .data, .data, .data, .sentinel, .sentinel, .listed, .data, .pinned], laidTests := true, laidLooks := .later }
def NotesNamedUptoCardSaid : Prop := Claim7.holds Tryd.pinned (.plain (OpenSpec.upto notesNamedSpec)) notesNamedUptoCard

/-- THE SECOND FORM's CARD OF 'gleetop.TopShiftedMelodies'. -/
def topShiftedMelodiesUptoCard : Claim7 := { stood := { row := topShiftedMelodiesUptoRow, standIns := [], harness := (true, "e3de868d504dca1c6d1aa592ccd03b1c223e52a4c7949e8a8099a8f52ece0a1a"), looks := true }, kinds := [], alts := [], laidByText := true, laidKinds := [.data, .data, .data, .data, .pinned], laidTests := true, laidLooks := .later }
def TopShiftedMelodiesUptoCardSaid : Prop := Claim7.holds Tryd.pinned (.plain (OpenSpec.upto topShiftedMelodiesSpec)) topShiftedMelodiesUptoCard
end Rows
end Go.Proofs.YtdagocpgefjmdaaDoor
