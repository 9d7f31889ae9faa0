/-
  NARROWER THAN 'FOR EVERY INPUT', by the rows' own cells (each row's printed sentence says how): AdmitNil: laid · AdmitLater: laid · LedgerNil: laid.
  DERIVED. THE GIVEN ROWS OF THIS SEAT. 3 by the template 'for every input the law returns true; each argument reads behind the call as it read before'; 0 by the template 'total and deterministic' (their statements: YtahbiajdgealnaaDoorTotals.lean).
  GIVEN WITH THE SEED: the statements are not yours to turn. If you find one false, say at which input.
  Laid BY PROGRAM, IN A SANDBOX (cutbox-rows.mjs): the forced cells as the released guide's own fill.sh prints them over the translation 0099275f1ff421a7… (all of the seat's roots in one cut). By AI agents, Wed Nov 11 2026. No macro, syntax, notation, axiom, sorry.
-/
import Derived.Test.YtahbiajdgealnaaDoorChecked
import GoSem.Claim
import GoSem.ClaimJoined
import GoSem.ClaimMapViews
import Derived.JoinedTies
import Derived.KernelRfl
namespace Go.Proofs.YtahbiajdgealnaaDoor
/- THE CELL 'sum', in the pinned program and in every row, IS THE sha256 OF THE DUMP (.gsa) THAT YtahbiajdgealnaaDoorProg.lean LOADS. Nothing in Lean hashes anything: it is a label: what it is worth is what the hold of that sum in a sandbox is worth. -/
noncomputable def Tryd.pinned : Pinned := { name := "ytahbiajdgealnaadoor", sum := "0099275f1ff421a71950988c8dca60b92af5e527e402c9908a1284574565ecb0", checked := Tryd.checked }
namespace Rows
def none {H : Type} : Left H := { results := [], args := [] }

/- WHAT THE LISTED PACKAGE-LEVEL VARIABLES READ AS WHEN THE CALL BEGINS. Each datum BY PROGRAM (the guide's laid-datum.mjs) off the statement by which the dump's own 'gosem.cut.vars' lays the variable. In a bare row this is a premise. The card (YtahbiajdgealnaaDoorCards.lean) ties it to the program's text. -/
def laid_leat_ledger_kinds {H : Type} : DataW H := .iface "func table" (.agg [.nil, .iface "func" (.lit (.string [40, 42, 108, 101, 97, 116, 47, 108, 101, 100, 103, 101, 114, 46, 76, 101, 100, 103, 101, 114, 41, 46, 109, 97, 107, 101, 115])), .iface "func" (.lit (.string [40, 42, 108, 101, 97, 116, 47, 108, 101, 100, 103, 101, 114, 46, 76, 101, 100, 103, 101, 114, 41, 46, 114, 97, 105, 115, 101, 115])), .iface "func" (.lit (.string [40, 42, 108, 101, 97, 116, 47, 108, 101, 100, 103, 101, 114, 46, 76, 101, 100, 103, 101, 114, 41, 46, 116, 97, 107, 101, 115])), .iface "func" (.lit (.string [40, 42, 108, 101, 97, 116, 47, 108, 101, 100, 103, 101, 114, 46, 76, 101, 100, 103, 101, 114, 41, 46, 102, 114, 101, 101, 115])), .iface "func" (.lit (.string [40, 42, 108, 101, 97, 116, 47, 108, 101, 100, 103, 101, 114, 46, 76, 101, 100, 103, 101, 114, 41, 46, 109, 111, 118, 101, 115])), .iface "func" (.lit (.string [40, 42, 108, 101, 97, 116, 47, 108, 101, 100, 103, 101, 114, 46, 76, 101, 100, 103, 101, 114, 41, 46, 106, 111, 105, 110, 115])), .iface "func" (.lit (.string [40, 42, 108, 101, 97, 116, 47, 108, 101, 100, 103, 101, 114, 46, 76, 101, 100, 103, 101, 114, 41, 46, 108, 101, 97, 118, 101, 115]))])

/-- 'leatlaw12.AdmitNil': WHATEVER THE INPUT: true; the input reads as it did. -/
def admitNilSpec : ChangeSpec := { name := "admitNil", fn := fun _ => fun
  | [d1, d2] => { results := [.lit (.bool true)], args := [d1, d2] }
  | _ => none }
def admitNilRow : OpenClaim := { program := "ytahbiajdgealnaadoor", sum := "0099275f1ff421a71950988c8dca60b92af5e527e402c9908a1284574565ecb0", func := "leat/leatlaw12.AdmitNil", spec := "admitNil", unfollowed := true, recurses := true, named := ["leat/ledger.kinds"], plainKeys := false, apart := false, laid := [("leat/ledger.kinds", laid_leat_ledger_kinds)] }
def AdmitNilSaid : Prop := admitNilRow.holds Tryd.pinned (OpenSpec.ofChange admitNilSpec)

/-- ITS FALSE NEIGHBOUR: 'it returns false'. Refute it at one input. -/
def admitNilWrong : ChangeSpec := { name := "admitNil", fn := fun _ => fun
  | [d1, d2] => { results := [.lit (.bool false)], args := [d1, d2] }
  | _ => none }
def AdmitNilWrongFalsely : Prop := admitNilRow.holds Tryd.pinned (OpenSpec.ofChange admitNilWrong)

/-- 'leatlaw12.AdmitLater': WHATEVER THE INPUT: true; the input reads as it did. -/
def admitLaterSpec : ChangeSpec := { name := "admitLater", fn := fun _ => fun
  | [d1, d2, d3, d4] => { results := [.lit (.bool true)], args := [d1, d2, d3, d4] }
  | _ => none }
def admitLaterRow : OpenClaim := { program := "ytahbiajdgealnaadoor", sum := "0099275f1ff421a71950988c8dca60b92af5e527e402c9908a1284574565ecb0", func := "leat/leatlaw12.AdmitLater", spec := "admitLater", unfollowed := true, recurses := true, named := ["leat/ledger.kinds"], plainKeys := false, apart := false, laid := [("leat/ledger.kinds", laid_leat_ledger_kinds)] }
def AdmitLaterSaid : Prop := admitLaterRow.holds Tryd.pinned (OpenSpec.ofChange admitLaterSpec)

/-- ITS FALSE NEIGHBOUR: 'it returns false'. Refute it at one input. -/
def admitLaterWrong : ChangeSpec := { name := "admitLater", fn := fun _ => fun
  | [d1, d2, d3, d4] => { results := [.lit (.bool false)], args := [d1, d2, d3, d4] }
  | _ => none }
def AdmitLaterWrongFalsely : Prop := admitLaterRow.holds Tryd.pinned (OpenSpec.ofChange admitLaterWrong)

/-- 'leatlaw11.LedgerNil': WHATEVER THE INPUT: true; the input reads as it did. -/
def ledgerNilSpec : ChangeSpec := { name := "ledgerNil", fn := fun _ => fun
  | [d1, d2, d3] => { results := [.lit (.bool true)], args := [d1, d2, d3] }
  | _ => none }
def ledgerNilRow : OpenClaim := { program := "ytahbiajdgealnaadoor", sum := "0099275f1ff421a71950988c8dca60b92af5e527e402c9908a1284574565ecb0", func := "leat/leatlaw11.LedgerNil", spec := "ledgerNil", unfollowed := true, recurses := true, named := ["leat/ledger.kinds"], plainKeys := false, apart := false, laid := [("leat/ledger.kinds", laid_leat_ledger_kinds)] }
def LedgerNilSaid : Prop := ledgerNilRow.holds Tryd.pinned (OpenSpec.ofChange ledgerNilSpec)

/-- ITS FALSE NEIGHBOUR: 'it returns false'. Refute it at one input. -/
def ledgerNilWrong : ChangeSpec := { name := "ledgerNil", fn := fun _ => fun
  | [d1, d2, d3] => { results := [.lit (.bool false)], args := [d1, d2, d3] }
  | _ => none }
def LedgerNilWrongFalsely : Prop := ledgerNilRow.holds Tryd.pinned (OpenSpec.ofChange ledgerNilWrong)

/- THE SECOND FORM. 'bulk': how many values and letters a reading holds, each counted each time it is reached (what is shared counts as often as it is met; a slice's spare places count too). A statement '..UptoSaid' is the law's where the arguments, and the package variables that the reading takes, are together of bulk at most 1048576: NARROWER than '..Said'. Prove '..Said' where nothing that the law and all that it calls make is longer than what came in: it says more and counts as full. Else prove '..UptoSaid'. A law counts once. -/
mutual
def uptoBulk {H : Type} : DataW H → Nat
  | .lit (.string bytes) => bytes.length + 1
  | .lit _ => 1
  | .nil => 1
  | .ptr d => uptoBulk d + 1
  | .slice elems spare => uptoBulkAll elems + uptoBulkAll spare + 1
  | .agg parts => uptoBulkAll parts + 1
  | .iface _ d => uptoBulk d + 1
  | .map entries => uptoBulkEntries entries + 1
  | .held _ => 1
def uptoBulkAll {H : Type} : List (DataW H) → Nat
  | [] => 0
  | d :: r => uptoBulk d + uptoBulkAll r
def uptoBulkEntries {H : Type} : List (Lit × DataW H) → Nat
  | [] => 0
  | x :: r => uptoBulkEntry x + uptoBulkEntries r
def uptoBulkEntry {H : Type} : Lit × DataW H → Nat
  | (.string bytes, d) => bytes.length + uptoBulk d + 1
  | (_, d) => uptoBulk d + 1
 end
def uptoSmall : (H : Type) → List (DataW H) → Bool := fun _ ds => decide (uptoBulkAll ds ≤ 1048576)
def OpenSpec.upto (s : _root_.Go.ChangeSpec) : _root_.Go.OpenSpec := { _root_.Go.OpenSpec.ofChange s with cond := some uptoSmall }

/-- 'leatlaw12.AdmitNil', WHERE WHAT IT READS IS OF BULK AT MOST 1048576: true; the input reads as it did. -/
def admitNilUptoRow : OpenClaim := { program := "ytahbiajdgealnaadoor", sum := "0099275f1ff421a71950988c8dca60b92af5e527e402c9908a1284574565ecb0", func := "leat/leatlaw12.AdmitNil", spec := "admitNil", unfollowed := true, recurses := true, named := ["leat/ledger.kinds"], plainKeys := false, apart := false, laid := [("leat/ledger.kinds", laid_leat_ledger_kinds)], narrowed := true }
def AdmitNilUptoSaid : Prop := admitNilUptoRow.holds Tryd.pinned (OpenSpec.upto admitNilSpec)

/-- 'leatlaw12.AdmitLater', WHERE WHAT IT READS IS OF BULK AT MOST 1048576: true; the input reads as it did. -/
def admitLaterUptoRow : OpenClaim := { program := "ytahbiajdgealnaadoor", sum := "0099275f1ff421a71950988c8dca60b92af5e527e402c9908a1284574565ecb0", func := "leat/leatlaw12.AdmitLater", spec := "admitLater", unfollowed := true, recurses := true, named := ["leat/ledger.kinds"], plainKeys := false, apart := false, laid := [("leat/ledger.kinds", laid_leat_ledger_kinds)], narrowed := true }
def AdmitLaterUptoSaid : Prop := admitLaterUptoRow.holds Tryd.pinned (OpenSpec.upto admitLaterSpec)

/-- 'leatlaw11.LedgerNil', WHERE WHAT IT READS IS OF BULK AT MOST 1048576: true; the input reads as it did. -/
def ledgerNilUptoRow : OpenClaim := { program := "ytahbiajdgealnaadoor", sum := "0099275f1ff421a71950988c8dca60b92af5e527e402c9908a1284574565ecb0", func := "leat/leatlaw11.LedgerNil", spec := "ledgerNil", unfollowed := true, recurses := true, named := ["leat/ledger.kinds"], plainKeys := false, apart := false, laid := [("leat/ledger.kinds", laid_leat_ledger_kinds)], narrowed := true }
def LedgerNilUptoSaid : Prop := ledgerNilUptoRow.holds Tryd.pinned (OpenSpec.upto ledgerNilSpec)

end Rows
end Go.Proofs.YtahbiajdgealnaaDoor
