/-
  DERIVED. GIVEN WITH THE SEED: THE CARDS: each row of YtahbiajdgealnaaGreatDoorRows.lean that lists a variable, with what it lists TIED to the program's text (the seventh form; the later family's looks); each row that meets fmt, with fmt's text TOLD by the authors' own Lean function (tested against real Go, not proved from fmt's source: count such statements apart). THE CARD IS WHAT COUNTS. Prove the row's statement (the work); the ties are given (YtahbiajdgealnaaGreatDoorTie.lean); close each card by the builder's one call (the guide's Derived/Test/ToyasCard.lean, 'card_holds'). Laid BY PROGRAM, IN A SANDBOX (cutbox-door.mjs). By AI agents, Wed Nov 11 2026. No macro, syntax, notation, axiom, sorry.
-/
import Derived.Test.YtahbiajdgealnaaGreatDoorRows
import GoSem.ClaimSeven
namespace Go.Proofs.YtahbiajdgealnaaGreatDoor
namespace Rows

/-- THE TIED CARD OF 'leatlaw11.LedgerOrder'. -/
def ledgerOrderCard : Claim7 := { stood := { row := ledgerOrderRow, standIns := [], harness := (true, "0eef30c91e01e212c9868c33f8a37d430a13307d69156a7fdc060cbfc7384a5e"), looks := false }, kinds := [], alts := [], laidByText := true, laidKinds := [.funcs], laidTests := true, laidLooks := .later }
def LedgerOrderCardSaid : Prop := Claim7.holds Tryz.pinned (.plain (OpenSpec.ofChange ledgerOrderSpec)) ledgerOrderCard

/-- THE TIED CARD OF 'leatlaw11.LedgerBound'. -/
def ledgerBoundCard : Claim7 := { stood := { row := ledgerBoundRow, standIns := [], harness := (true, "0eef30c91e01e212c9868c33f8a37d430a13307d69156a7fdc060cbfc7384a5e"), looks := false }, kinds := [], alts := [], laidByText := true, laidKinds := [.funcs], laidTests := true, laidLooks := .later }
def LedgerBoundCardSaid : Prop := Claim7.holds Tryz.pinned (.plain (OpenSpec.ofChange ledgerBoundSpec)) ledgerBoundCard

/-- THE TIED CARD OF 'leatlaw11.LedgerWhole'. -/
def ledgerWholeCard : Claim7 := { stood := { row := ledgerWholeRow, standIns := [], harness := (true, "0eef30c91e01e212c9868c33f8a37d430a13307d69156a7fdc060cbfc7384a5e"), looks := false }, kinds := [], alts := [], laidByText := true, laidKinds := [.funcs], laidTests := true, laidLooks := .later }
def LedgerWholeCardSaid : Prop := Claim7.holds Tryz.pinned (.plain (OpenSpec.ofChange ledgerWholeSpec)) ledgerWholeCard

/-- THE TIED CARD OF 'leatlaw11.LedgerTurned'. -/
def ledgerTurnedCard : Claim7 := { stood := { row := ledgerTurnedRow, standIns := [], harness := (true, "0eef30c91e01e212c9868c33f8a37d430a13307d69156a7fdc060cbfc7384a5e"), looks := false }, kinds := [], alts := [], laidByText := true, laidKinds := [.funcs], laidTests := true, laidLooks := .later }
def LedgerTurnedCardSaid : Prop := Claim7.holds Tryz.pinned (.plain (OpenSpec.ofChange ledgerTurnedSpec)) ledgerTurnedCard

/-- THE TIED CARD OF 'leatlaw11.LedgerPlays'. -/
def ledgerPlaysCard : Claim7 := { stood := { row := ledgerPlaysRow, standIns := [], harness := (true, "0eef30c91e01e212c9868c33f8a37d430a13307d69156a7fdc060cbfc7384a5e"), looks := false }, kinds := [], alts := [], laidByText := true, laidKinds := [.funcs], laidTests := true, laidLooks := .later }
def LedgerPlaysCardSaid : Prop := Claim7.holds Tryz.pinned (.plain (OpenSpec.ofChange ledgerPlaysSpec)) ledgerPlaysCard

/-- THE TIED CARD OF 'leatlaw19.MemberMoves'. -/
def memberMovesCard : Claim7 := { stood := { row := memberMovesRow, standIns := [], harness := (true, "0eef30c91e01e212c9868c33f8a37d430a13307d69156a7fdc060cbfc7384a5e"), looks := false }, kinds := [], alts := [], laidByText := true, laidKinds := [.funcs], laidTests := true, laidLooks := .later }
def MemberMovesCardSaid : Prop := Claim7.holds Tryz.pinned (.plain (OpenSpec.ofChange memberMovesSpec)) memberMovesCard

/-- THE TIED CARD OF 'leatlaw25.QueryRoom'. -/
def queryRoomCard : Claim7 := { stood := { row := queryRoomRow, standIns := [], harness := (true, "0eef30c91e01e212c9868c33f8a37d430a13307d69156a7fdc060cbfc7384a5e"), looks := false }, kinds := [], alts := [], laidByText := true, laidKinds := [.funcs], laidTests := true, laidLooks := .later }
def QueryRoomCardSaid : Prop := Claim7.holds Tryz.pinned (.plain (OpenSpec.ofChange queryRoomSpec)) queryRoomCard

/-- THE SECOND FORM's CARD OF 'leatlaw11.LedgerOrder'. -/
def ledgerOrderUptoCard : Claim7 := { stood := { row := ledgerOrderUptoRow, standIns := [], harness := (true, "0eef30c91e01e212c9868c33f8a37d430a13307d69156a7fdc060cbfc7384a5e"), looks := false }, kinds := [], alts := [], laidByText := true, laidKinds := [.funcs], laidTests := true, laidLooks := .later }
def LedgerOrderUptoCardSaid : Prop := Claim7.holds Tryz.pinned (.plain (OpenSpec.upto ledgerOrderSpec)) ledgerOrderUptoCard

/-- THE SECOND FORM's CARD OF 'leatlaw11.LedgerBound'. -/
def ledgerBoundUptoCard : Claim7 := { stood := { row := ledgerBoundUptoRow, standIns := [], harness := (true, "0eef30c91e01e212c9868c33f8a37d430a13307d69156a7fdc060cbfc7384a5e"), looks := false }, kinds := [], alts := [], laidByText := true, laidKinds := [.funcs], laidTests := true, laidLooks := .later }
def LedgerBoundUptoCardSaid : Prop := Claim7.holds Tryz.pinned (.plain (OpenSpec.upto ledgerBoundSpec)) ledgerBoundUptoCard

/-- THE SECOND FORM's CARD OF 'leatlaw11.LedgerWhole'. -/
def ledgerWholeUptoCard : Claim7 := { stood := { row := ledgerWholeUptoRow, standIns := [], harness := (true, "0eef30c91e01e212c9868c33f8a37d430a13307d69156a7fdc060cbfc7384a5e"), looks := false }, kinds := [], alts := [], laidByText := true, laidKinds := [.funcs], laidTests := true, laidLooks := .later }
def LedgerWholeUptoCardSaid : Prop := Claim7.holds Tryz.pinned (.plain (OpenSpec.upto ledgerWholeSpec)) ledgerWholeUptoCard

/-- THE SECOND FORM's CARD OF 'leatlaw11.LedgerTurned'. -/
def ledgerTurnedUptoCard : Claim7 := { stood := { row := ledgerTurnedUptoRow, standIns := [], harness := (true, "0eef30c91e01e212c9868c33f8a37d430a13307d69156a7fdc060cbfc7384a5e"), looks := false }, kinds := [], alts := [], laidByText := true, laidKinds := [.funcs], laidTests := true, laidLooks := .later }
def LedgerTurnedUptoCardSaid : Prop := Claim7.holds Tryz.pinned (.plain (OpenSpec.upto ledgerTurnedSpec)) ledgerTurnedUptoCard

/-- THE SECOND FORM's CARD OF 'leatlaw11.LedgerPlays'. -/
def ledgerPlaysUptoCard : Claim7 := { stood := { row := ledgerPlaysUptoRow, standIns := [], harness := (true, "0eef30c91e01e212c9868c33f8a37d430a13307d69156a7fdc060cbfc7384a5e"), looks := false }, kinds := [], alts := [], laidByText := true, laidKinds := [.funcs], laidTests := true, laidLooks := .later }
def LedgerPlaysUptoCardSaid : Prop := Claim7.holds Tryz.pinned (.plain (OpenSpec.upto ledgerPlaysSpec)) ledgerPlaysUptoCard

/-- THE SECOND FORM's CARD OF 'leatlaw19.MemberMoves'. -/
def memberMovesUptoCard : Claim7 := { stood := { row := memberMovesUptoRow, standIns := [], harness := (true, "0eef30c91e01e212c9868c33f8a37d430a13307d69156a7fdc060cbfc7384a5e"), looks := false }, kinds := [], alts := [], laidByText := true, laidKinds := [.funcs], laidTests := true, laidLooks := .later }
def MemberMovesUptoCardSaid : Prop := Claim7.holds Tryz.pinned (.plain (OpenSpec.upto memberMovesSpec)) memberMovesUptoCard

/-- THE SECOND FORM's CARD OF 'leatlaw25.QueryRoom'. -/
def queryRoomUptoCard : Claim7 := { stood := { row := queryRoomUptoRow, standIns := [], harness := (true, "0eef30c91e01e212c9868c33f8a37d430a13307d69156a7fdc060cbfc7384a5e"), looks := false }, kinds := [], alts := [], laidByText := true, laidKinds := [.funcs], laidTests := true, laidLooks := .later }
def QueryRoomUptoCardSaid : Prop := Claim7.holds Tryz.pinned (.plain (OpenSpec.upto queryRoomSpec)) queryRoomUptoCard
end Rows
end Go.Proofs.YtahbiajdgealnaaGreatDoor
