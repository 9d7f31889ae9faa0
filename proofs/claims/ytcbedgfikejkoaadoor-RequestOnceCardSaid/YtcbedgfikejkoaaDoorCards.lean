/-
  DERIVED. GIVEN WITH THE SEED: THE CARDS: each row of YtcbedgfikejkoaaDoorRows.lean that lists a variable, with what it lists TIED to the program's text (the seventh form; the later family's looks); each row that meets fmt, with fmt's text TOLD by the authors' own Lean function (tested against real Go, not proved from fmt's source: count such statements apart). THE CARD IS WHAT COUNTS. Prove the row's statement (the work); the ties are given (YtcbedgfikejkoaaDoorTie.lean); close each card by the builder's one call (the guide's Derived/Test/ToyasCard.lean, 'card_holds'). Laid BY PROGRAM, IN A SANDBOX (cutbox-door.mjs). By AI agents, Wed Nov 11 2026. No macro, syntax, notation, axiom, sorry.
-/
import Derived.Test.YtcbedgfikejkoaaDoorRows
import GoSem.ClaimSeven
namespace Go.Proofs.YtcbedgfikejkoaaDoor
namespace Rows

/-- THE TIED CARD OF 'leatlaw13.RequestOnce'. -/
def requestOnceCard : Claim7 := { stood := { row := requestOnceRow, standIns := [], harness := (true, "714b37d6246f7fd0ed77d002dc9ba34261555aba5d9087658c665a791b52e497"), looks := false }, kinds := [], alts := [], laidByText := true, laidKinds := [.funcs], laidTests := true, laidLooks := .later }
def RequestOnceCardSaid : Prop := Claim7.holds Tryd.pinned (.plain (OpenSpec.ofChange requestOnceSpec)) requestOnceCard

/-- THE TIED CARD OF 'leatlaw13.RequestNil'. -/
def requestNilCard : Claim7 := { stood := { row := requestNilRow, standIns := [], harness := (true, "714b37d6246f7fd0ed77d002dc9ba34261555aba5d9087658c665a791b52e497"), looks := false }, kinds := [], alts := [], laidByText := true, laidKinds := [.funcs], laidTests := true, laidLooks := .later }
def RequestNilCardSaid : Prop := Claim7.holds Tryd.pinned (.plain (OpenSpec.ofChange requestNilSpec)) requestNilCard

/-- THE SECOND FORM's CARD OF 'leatlaw13.RequestOnce'. -/
def requestOnceUptoCard : Claim7 := { stood := { row := requestOnceUptoRow, standIns := [], harness := (true, "714b37d6246f7fd0ed77d002dc9ba34261555aba5d9087658c665a791b52e497"), looks := false }, kinds := [], alts := [], laidByText := true, laidKinds := [.funcs], laidTests := true, laidLooks := .later }
def RequestOnceUptoCardSaid : Prop := Claim7.holds Tryd.pinned (.plain (OpenSpec.upto requestOnceSpec)) requestOnceUptoCard

/-- THE SECOND FORM's CARD OF 'leatlaw13.RequestNil'. -/
def requestNilUptoCard : Claim7 := { stood := { row := requestNilUptoRow, standIns := [], harness := (true, "714b37d6246f7fd0ed77d002dc9ba34261555aba5d9087658c665a791b52e497"), looks := false }, kinds := [], alts := [], laidByText := true, laidKinds := [.funcs], laidTests := true, laidLooks := .later }
def RequestNilUptoCardSaid : Prop := Claim7.holds Tryd.pinned (.plain (OpenSpec.upto requestNilSpec)) requestNilUptoCard
end Rows
end Go.Proofs.YtcbedgfikejkoaaDoor
