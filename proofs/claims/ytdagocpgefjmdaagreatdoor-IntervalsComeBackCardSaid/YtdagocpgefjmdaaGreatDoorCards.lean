/-
  DERIVED. GIVEN WITH THE SEED: THE CARDS: each row of YtdagocpgefjmdaaGreatDoorRows.lean that lists a variable, with what it lists TIED to the program's text (the seventh form; the later family's looks); each row that meets fmt, with fmt's text TOLD by the authors' own Lean function (tested against real Go, not proved from fmt's source: count such statements apart). THE CARD IS WHAT COUNTS. Prove the row's statement (the work); the ties are given (YtdagocpgefjmdaaGreatDoorTie.lean); close each card by the builder's one call (the guide's Derived/Test/ToyasCard.lean, 'card_holds'). Laid BY PROGRAM, IN A SANDBOX (cutbox-door.mjs). By AI agents, Wed Nov 11 2026. No macro, syntax, notation, axiom, sorry.
-/
import Derived.Test.YtdagocpgefjmdaaGreatDoorRows
import GoSem.ClaimSeven
namespace Go.Proofs.YtdagocpgefjmdaaGreatDoor
namespace Rows

/-- THE TIED CARD OF 'gleelaw1.SingersDivided'. -/
def singersDividedCard : Claim7 := { stood := { row := singersDividedRow, standIns := [], harness := (true, "d903c6881e8072a2a88f8c4d9d7f2cf78c75c1d4d70925f89d3248449e0938a4"), looks := true }, kinds := [], alts := [], laidByText := true, laidKinds := [.data, .pinned], laidTests := true, laidLooks := .later }
def SingersDividedCardSaid : Prop := Claim7.holds Tryz.pinned (.plain (OpenSpec.ofChange singersDividedSpec)) singersDividedCard

/-- THE TIED CARD OF 'gleelaw1.SingersLacking'. -/
def singersLackingCard : Claim7 := { stood := { row := singersLackingRow, standIns := [], harness := (true, "d903c6881e8072a2a88f8c4d9d7f2cf78c75c1d4d70925f89d3248449e0938a4"), looks := true }, kinds := [], alts := [], laidByText := true, laidKinds := [.data, .pinned], laidTests := true, laidLooks := .later }
def SingersLackingCardSaid : Prop := Claim7.holds Tryz.pinned (.plain (OpenSpec.ofChange singersLackingSpec)) singersLackingCard

/-- THE TIED CARD OF 'gleekeep1.IntervalsComeBack'. -/
def intervalsComeBackCard : Claim7 := { stood := { row := intervalsComeBackRow, standIns := [], harness := (true, "d903c6881e8072a2a88f8c4d9d7f2cf78c75c1d4d70925f89d3248449e0938a4"), looks := true }, kinds := [], alts := [], laidByText := true, laidKinds := [.data, .data, .data, .data, .sentinel, .sentinel, .pinned], laidTests := true, laidLooks := .later }
def IntervalsComeBackCardSaid : Prop := Claim7.holds Tryz.pinned (.plain (OpenSpec.ofChange intervalsComeBackSpec)) intervalsComeBackCard

/-- THE SECOND FORM's CARD OF 'gleelaw1.SingersDivided'. -/
def singersDividedUptoCard : Claim7 := { stood := { row := singersDividedUptoRow, standIns := [], harness := (true, "d903c6881e8072a2a88f8c4d9d7f2cf78c75c1d4d70925f89d3248449e0938a4"), looks := true }, kinds := [], alts := [], laidByText := true, laidKinds := [.data, .pinned], laidTests := true, laidLooks := .later }
def SingersDividedUptoCardSaid : Prop := Claim7.holds Tryz.pinned (.plain (OpenSpec.upto singersDividedSpec)) singersDividedUptoCard

/-- THE SECOND FORM's CARD OF 'gleelaw1.SingersLacking'. -/
def singersLackingUptoCard : Claim7 := { stood := { row := singersLackingUptoRow, standIns := [], harness := (true, "d903c6881e8072a2a88f8c4d9d7f2cf78c75c1d4d70925f89d3248449e0938a4"), looks := true }, kinds := [], alts := [], laidByText := true, laidKinds := [.data, .pinned], laidTests := true, laidLooks := .later }
def SingersLackingUptoCardSaid : Prop := Claim7.holds Tryz.pinned (.plain (OpenSpec.upto singersLackingSpec)) singersLackingUptoCard

/-- THE SECOND FORM's CARD OF 'gleekeep1.IntervalsComeBack'. -/
def intervalsComeBackUptoCard : Claim7 := { stood := { row := intervalsComeBackUptoRow, standIns := [], harness := (true, "d903c6881e8072a2a88f8c4d9d7f2cf78c75c1d4d70925f89d3248449e0938a4"), looks := true }, kinds := [], alts := [], laidByText := true, laidKinds := [.data, .data, .data, .data, .sentinel, .sentinel, .pinned], laidTests := true, laidLooks := .later }
def IntervalsComeBackUptoCardSaid : Prop := Claim7.holds Tryz.pinned (.plain (OpenSpec.upto intervalsComeBackSpec)) intervalsComeBackUptoCard
end Rows
end Go.Proofs.YtdagocpgefjmdaaGreatDoor
