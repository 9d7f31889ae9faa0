/-
  DERIVED. GIVEN WITH THE SEED: THE CARDS: each row of YtabjalhnkndjaaaGreatDoorRows.lean that lists a variable, with what it lists TIED to the program's text (the seventh form; the later family's looks); each row that meets fmt, with fmt's text TOLD by the authors' own Lean function (tested against real Go, not proved from fmt's source: count such statements apart). THE CARD IS WHAT COUNTS. Prove the row's statement (the work); the ties are given (YtabjalhnkndjaaaGreatDoorTie.lean); close each card by the builder's one call (the guide's Derived/Test/ToyasCard.lean, 'card_holds'). Laid BY PROGRAM, IN A SANDBOX (cutbox-door.mjs). By AI agents, Wed Nov 11 2026. No macro, syntax, notation, axiom, sorry.
-/
import Derived.Test.YtabjalhnkndjaaaGreatDoorRows
import GoSem.ClaimSeven
namespace Go.Proofs.YtabjalhnkndjaaaGreatDoor
namespace Rows

/-- THE TIED CARD OF 'leatlaw32.SnapJoins'. -/
def snapJoinsCard : Claim7 := { stood := { row := snapJoinsRow, standIns := [], harness := (true, "eb69704f50263f60c9ce58a7d8cd4eeb5741e009fbd30d4a8e40cbb1a4ce6a65"), looks := false }, kinds := [], alts := [], laidByText := true, laidKinds := [.funcs], laidTests := true, laidLooks := .later }
def SnapJoinsCardSaid : Prop := Claim7.holds Tryz.pinned (.plain (OpenSpec.ofChange snapJoinsSpec)) snapJoinsCard

/-- THE SECOND FORM's CARD OF 'leatlaw32.SnapJoins'. -/
def snapJoinsUptoCard : Claim7 := { stood := { row := snapJoinsUptoRow, standIns := [], harness := (true, "eb69704f50263f60c9ce58a7d8cd4eeb5741e009fbd30d4a8e40cbb1a4ce6a65"), looks := false }, kinds := [], alts := [], laidByText := true, laidKinds := [.funcs], laidTests := true, laidLooks := .later }
def SnapJoinsUptoCardSaid : Prop := Claim7.holds Tryz.pinned (.plain (OpenSpec.upto snapJoinsSpec)) snapJoinsUptoCard
end Rows
end Go.Proofs.YtabjalhnkndjaaaGreatDoor
