/-
  DERIVED. GIVEN WITH THE SEED: THE CARDS: each row of YtahbiajdgealnaaDoorRows.lean that lists a variable, with what it lists TIED to the program's text (the seventh form; the later family's looks); each row that meets fmt, with fmt's text TOLD by the authors' own Lean function (tested against real Go, not proved from fmt's source: count such statements apart). THE CARD IS WHAT COUNTS. Prove the row's statement (the work); the ties are given (YtahbiajdgealnaaDoorTie.lean); close each card by the builder's one call (the guide's Derived/Test/ToyasCard.lean, 'card_holds'). Laid BY PROGRAM, IN A SANDBOX (cutbox-door.mjs). By AI agents, Wed Nov 11 2026. No macro, syntax, notation, axiom, sorry.
-/
import Derived.Test.YtahbiajdgealnaaDoorRows
import GoSem.ClaimSeven
namespace Go.Proofs.YtahbiajdgealnaaDoor
namespace Rows

/-- THE TIED CARD OF 'leatlaw12.AdmitNil'. -/
def admitNilCard : Claim7 := { stood := { row := admitNilRow, standIns := [], harness := (true, "8818da882fb8c581516db0d616e9b117fe6530bd5efe86c9199f898d4fa92ccb"), looks := false }, kinds := [], alts := [], laidByText := true, laidKinds := [.funcs], laidTests := true, laidLooks := .later }
def AdmitNilCardSaid : Prop := Claim7.holds Tryd.pinned (.plain (OpenSpec.ofChange admitNilSpec)) admitNilCard

/-- THE TIED CARD OF 'leatlaw12.AdmitLater'. -/
def admitLaterCard : Claim7 := { stood := { row := admitLaterRow, standIns := [], harness := (true, "8818da882fb8c581516db0d616e9b117fe6530bd5efe86c9199f898d4fa92ccb"), looks := false }, kinds := [], alts := [], laidByText := true, laidKinds := [.funcs], laidTests := true, laidLooks := .later }
def AdmitLaterCardSaid : Prop := Claim7.holds Tryd.pinned (.plain (OpenSpec.ofChange admitLaterSpec)) admitLaterCard

/-- THE TIED CARD OF 'leatlaw11.LedgerNil'. -/
def ledgerNilCard : Claim7 := { stood := { row := ledgerNilRow, standIns := [], harness := (true, "8818da882fb8c581516db0d616e9b117fe6530bd5efe86c9199f898d4fa92ccb"), looks := false }, kinds := [], alts := [], laidByText := true, laidKinds := [.funcs], laidTests := true, laidLooks := .later }
def LedgerNilCardSaid : Prop := Claim7.holds Tryd.pinned (.plain (OpenSpec.ofChange ledgerNilSpec)) ledgerNilCard

/-- THE SECOND FORM's CARD OF 'leatlaw12.AdmitNil'. -/
def admitNilUptoCard : Claim7 := { stood := { row := admitNilUptoRow, standIns := [], harness := (true, "8818da882fb8c581516db0d616e9b117fe6530bd5efe86c9199f898d4fa92ccb"), looks := false }, kinds := [], alts := [], laidByText := true, laidKinds := [.funcs], laidTests := true, laidLooks := .later }
def AdmitNilUptoCardSaid : Prop := Claim7.holds Tryd.pinned (.plain (OpenSpec.upto admitNilSpec)) admitNilUptoCard

/-- THE SECOND FORM's CARD OF 'leatlaw12.AdmitLater'. -/
def admitLaterUptoCard : Claim7 := { stood := { row := admitLaterUptoRow, standIns := [], harness := (true, "8818da882fb8c581516db0d616e9b117fe6530bd5efe86c9199f898d4fa92ccb"), looks := false }, kinds := [], alts := [], laidByText := true, laidKinds := [.funcs], laidTests := true, laidLooks := .later }
def AdmitLaterUptoCardSaid : Prop := Claim7.holds Tryd.pinned (.plain (OpenSpec.upto admitLaterSpec)) admitLaterUptoCard

/-- THE SECOND FORM's CARD OF 'leatlaw11.LedgerNil'. -/
def ledgerNilUptoCard : Claim7 := { stood := { row := ledgerNilUptoRow, standIns := [], harness := (true, "8818da882fb8c581516db0d616e9b117fe6530bd5efe86c9199f898d4fa92ccb"), looks := false }, kinds := [], alts := [], laidByText := true, laidKinds := [.funcs], laidTests := true, laidLooks := .later }
def LedgerNilUptoCardSaid : Prop := Claim7.holds Tryd.pinned (.plain (OpenSpec.upto ledgerNilSpec)) ledgerNilUptoCard
end Rows
end Go.Proofs.YtahbiajdgealnaaDoor
