/-
  NARROWER THAN 'FOR EVERY INPUT', by the rows' own cells (each row's printed sentence says how): LedgerOrder: laid · LedgerBound: laid · LedgerWhole: laid · LedgerTurned: laid · LedgerPlays: laid · MemberMoves: laid · QueryRoom: laid.
  DERIVED. THE GIVEN ROWS OF THIS SEAT. 7 by the template 'for every input the law returns true; each argument reads behind the call as it read before'; 0 by the template 'total and deterministic' (their statements: YtahbiajdgealnaaGreatDoorTotals.lean).
  GIVEN WITH THE SEED: the statements are not yours to turn. If you find one false, say at which input.
  Laid BY PROGRAM, IN A SANDBOX (cutbox-rows.mjs): the forced cells as the released guide's own fill.sh prints them over the translation 3676cc9765907f40… (all of the seat's roots in one cut). By AI agents, Wed Nov 11 2026. No macro, syntax, notation, axiom, sorry.
-/
import Derived.Test.YtahbiajdgealnaaGreatDoorChecked
import GoSem.Claim
import GoSem.ClaimJoined
import GoSem.ClaimMapViews
import Derived.JoinedTies
import Derived.KernelRfl
namespace Go.Proofs.YtahbiajdgealnaaGreatDoor
/- THE CELL 'sum', in the pinned program and in every row, IS THE sha256 OF THE DUMP (.gsa) THAT YtahbiajdgealnaaGreatDoorProg.lean LOADS. Nothing in Lean hashes anything: it is a label: what it is worth is what the hold of that sum in a sandbox is worth. -/
noncomputable def Tryz.pinned : Pinned := { name := "ytahbiajdgealnaagreatdoor", sum := "3676cc9765907f40d9570eba146c908f0e08bd4b63ae498d971f34a4d86022ac", checked := Tryz.checked }
namespace Rows
def none {H : Type} : Left H := { results := [], args := [] }

/- WHAT THE LISTED PACKAGE-LEVEL VARIABLES READ AS WHEN THE CALL BEGINS. Each datum BY PROGRAM (the guide's laid-datum.mjs) off the statement by which the dump's own 'gosem.cut.vars' lays the variable. In a bare row this is a premise. The card (YtahbiajdgealnaaGreatDoorCards.lean) ties it to the program's text. -/
def laid_leat_ledger_kinds {H : Type} : DataW H := .iface "func table" (.agg [.nil, .iface "func" (.lit (.string [40, 42, 108, 101, 97, 116, 47, 108, 101, 100, 103, 101, 114, 46, 76, 101, 100, 103, 101, 114, 41, 46, 109, 97, 107, 101, 115])), .iface "func" (.lit (.string [40, 42, 108, 101, 97, 116, 47, 108, 101, 100, 103, 101, 114, 46, 76, 101, 100, 103, 101, 114, 41, 46, 114, 97, 105, 115, 101, 115])), .iface "func" (.lit (.string [40, 42, 108, 101, 97, 116, 47, 108, 101, 100, 103, 101, 114, 46, 76, 101, 100, 103, 101, 114, 41, 46, 116, 97, 107, 101, 115])), .iface "func" (.lit (.string [40, 42, 108, 101, 97, 116, 47, 108, 101, 100, 103, 101, 114, 46, 76, 101, 100, 103, 101, 114, 41, 46, 102, 114, 101, 101, 115])), .iface "func" (.lit (.string [40, 42, 108, 101, 97, 116, 47, 108, 101, 100, 103, 101, 114, 46, 76, 101, 100, 103, 101, 114, 41, 46, 109, 111, 118, 101, 115])), .iface "func" (.lit (.string [40, 42, 108, 101, 97, 116, 47, 108, 101, 100, 103, 101, 114, 46, 76, 101, 100, 103, 101, 114, 41, 46, 106, 111, 105, 110, 115])), .iface "func" (.lit (.string [40, 42, 108, 101, 97, 116, 47, 108, 101, 100, 103, 101, 114, 46, 76, 101, 100, 103, 101, 114, 41, 46, 108, 101, 97, 118, 101, 115]))])

/-- 'leatlaw11.LedgerOrder': WHATEVER THE INPUT: true; the input reads as it did. -/
def ledgerOrderSpec : ChangeSpec := { name := "ledgerOrder", fn := fun _ => fun
  | [d1, d2, d3] => { results := [.lit (.bool true)], args := [d1, d2, d3] }
  | _ => none }
def ledgerOrderRow : OpenClaim := { program := "ytahbiajdgealnaagreatdoor", sum := "3676cc9765907f40d9570eba146c908f0e08bd4b63ae498d971f34a4d86022ac", func := "leat/leatlaw11.LedgerOrder", spec := "ledgerOrder", unfollowed := true, recurses := true, named := ["leat/ledger.kinds"], plainKeys := false, apart := false, laid := [("leat/ledger.kinds", laid_leat_ledger_kinds)] }
def LedgerOrderSaid : Prop := ledgerOrderRow.holds Tryz.pinned (OpenSpec.ofChange ledgerOrderSpec)

/-- ITS FALSE NEIGHBOUR: 'it returns false'. Refute it at one input. -/
def ledgerOrderWrong : ChangeSpec := { name := "ledgerOrder", fn := fun _ => fun
  | [d1, d2, d3] => { results := [.lit (.bool false)], args := [d1, d2, d3] }
  | _ => none }
def LedgerOrderWrongFalsely : Prop := ledgerOrderRow.holds Tryz.pinned (OpenSpec.ofChange ledgerOrderWrong)

/-- 'leatlaw11.LedgerBound': WHATEVER THE INPUT: true; the input reads as it did. -/
def ledgerBoundSpec : ChangeSpec := { name := "ledgerBound", fn := fun _ => fun
  | [d1, d2] => { results := [.lit (.bool true)], args := [d1, d2] }
  | _ => none }
def ledgerBoundRow : OpenClaim := { program := "ytahbiajdgealnaagreatdoor", sum := "3676cc9765907f40d9570eba146c908f0e08bd4b63ae498d971f34a4d86022ac", func := "leat/leatlaw11.LedgerBound", spec := "ledgerBound", unfollowed := true, recurses := true, named := ["leat/ledger.kinds"], plainKeys := false, apart := false, laid := [("leat/ledger.kinds", laid_leat_ledger_kinds)] }
def LedgerBoundSaid : Prop := ledgerBoundRow.holds Tryz.pinned (OpenSpec.ofChange ledgerBoundSpec)

/-- ITS FALSE NEIGHBOUR: 'it returns false'. Refute it at one input. -/
def ledgerBoundWrong : ChangeSpec := { name := "ledgerBound", fn := fun _ => fun
  | [d1, d2] => { results := [.lit (.bool false)], args := [d1, d2] }
  | _ => none }
def LedgerBoundWrongFalsely : Prop := ledgerBoundRow.holds Tryz.pinned (OpenSpec.ofChange ledgerBoundWrong)

/-- 'leatlaw11.LedgerWhole': WHATEVER THE INPUT: true; the input reads as it did. -/
def ledgerWholeSpec : ChangeSpec := { name := "ledgerWhole", fn := fun _ => fun
  | [d1, d2, d3] => { results := [.lit (.bool true)], args := [d1, d2, d3] }
  | _ => none }
def ledgerWholeRow : OpenClaim := { program := "ytahbiajdgealnaagreatdoor", sum := "3676cc9765907f40d9570eba146c908f0e08bd4b63ae498d971f34a4d86022ac", func := "leat/leatlaw11.LedgerWhole", spec := "ledgerWhole", unfollowed := true, recurses := true, named := ["leat/ledger.kinds"], plainKeys := false, apart := false, laid := [("leat/ledger.kinds", laid_leat_ledger_kinds)] }
def LedgerWholeSaid : Prop := ledgerWholeRow.holds Tryz.pinned (OpenSpec.ofChange ledgerWholeSpec)

/-- ITS FALSE NEIGHBOUR: 'it returns false'. Refute it at one input. -/
def ledgerWholeWrong : ChangeSpec := { name := "ledgerWhole", fn := fun _ => fun
  | [d1, d2, d3] => { results := [.lit (.bool false)], args := [d1, d2, d3] }
  | _ => none }
def LedgerWholeWrongFalsely : Prop := ledgerWholeRow.holds Tryz.pinned (OpenSpec.ofChange ledgerWholeWrong)

/-- 'leatlaw11.LedgerTurned': WHATEVER THE INPUT: true; the input reads as it did. -/
def ledgerTurnedSpec : ChangeSpec := { name := "ledgerTurned", fn := fun _ => fun
  | [d1, d2, d3, d4] => { results := [.lit (.bool true)], args := [d1, d2, d3, d4] }
  | _ => none }
def ledgerTurnedRow : OpenClaim := { program := "ytahbiajdgealnaagreatdoor", sum := "3676cc9765907f40d9570eba146c908f0e08bd4b63ae498d971f34a4d86022ac", func := "leat/leatlaw11.LedgerTurned", spec := "ledgerTurned", unfollowed := true, recurses := true, named := ["leat/ledger.kinds"], plainKeys := false, apart := false, laid := [("leat/ledger.kinds", laid_leat_ledger_kinds)] }
def LedgerTurnedSaid : Prop := ledgerTurnedRow.holds Tryz.pinned (OpenSpec.ofChange ledgerTurnedSpec)

/-- ITS FALSE NEIGHBOUR: 'it returns false'. Refute it at one input. -/
def ledgerTurnedWrong : ChangeSpec := { name := "ledgerTurned", fn := fun _ => fun
  | [d1, d2, d3, d4] => { results := [.lit (.bool false)], args := [d1, d2, d3, d4] }
  | _ => none }
def LedgerTurnedWrongFalsely : Prop := ledgerTurnedRow.holds Tryz.pinned (OpenSpec.ofChange ledgerTurnedWrong)

/-- 'leatlaw11.LedgerPlays': WHATEVER THE INPUT: true; the input reads as it did. -/
def ledgerPlaysSpec : ChangeSpec := { name := "ledgerPlays", fn := fun _ => fun
  | [d1, d2, d3, d4] => { results := [.lit (.bool true)], args := [d1, d2, d3, d4] }
  | _ => none }
def ledgerPlaysRow : OpenClaim := { program := "ytahbiajdgealnaagreatdoor", sum := "3676cc9765907f40d9570eba146c908f0e08bd4b63ae498d971f34a4d86022ac", func := "leat/leatlaw11.LedgerPlays", spec := "ledgerPlays", unfollowed := true, recurses := true, named := ["leat/ledger.kinds"], plainKeys := false, apart := false, laid := [("leat/ledger.kinds", laid_leat_ledger_kinds)] }
def LedgerPlaysSaid : Prop := ledgerPlaysRow.holds Tryz.pinned (OpenSpec.ofChange ledgerPlaysSpec)

/-- ITS FALSE NEIGHBOUR: 'it returns false'. Refute it at one input. -/
def ledgerPlaysWrong : ChangeSpec := { name := "ledgerPlays", fn := fun _ => fun
  | [d1, d2, d3, d4] => { results := [.lit (.bool false)], args := [d1, d2, d3, d4] }
  | _ => none }
def LedgerPlaysWrongFalsely : Prop := ledgerPlaysRow.holds Tryz.pinned (OpenSpec.ofChange ledgerPlaysWrong)

/-- 'leatlaw19.MemberMoves': WHATEVER THE INPUT: true; the input reads as it did. -/
def memberMovesSpec : ChangeSpec := { name := "memberMoves", fn := fun _ => fun
  | [d1, d2, d3, d4] => { results := [.lit (.bool true)], args := [d1, d2, d3, d4] }
  | _ => none }
def memberMovesRow : OpenClaim := { program := "ytahbiajdgealnaagreatdoor", sum := "3676cc9765907f40d9570eba146c908f0e08bd4b63ae498d971f34a4d86022ac", func := "leat/leatlaw19.MemberMoves", spec := "memberMoves", unfollowed := true, recurses := true, named := ["leat/ledger.kinds"], plainKeys := false, apart := false, laid := [("leat/ledger.kinds", laid_leat_ledger_kinds)] }
def MemberMovesSaid : Prop := memberMovesRow.holds Tryz.pinned (OpenSpec.ofChange memberMovesSpec)

/-- ITS FALSE NEIGHBOUR: 'it returns false'. Refute it at one input. -/
def memberMovesWrong : ChangeSpec := { name := "memberMoves", fn := fun _ => fun
  | [d1, d2, d3, d4] => { results := [.lit (.bool false)], args := [d1, d2, d3, d4] }
  | _ => none }
def MemberMovesWrongFalsely : Prop := memberMovesRow.holds Tryz.pinned (OpenSpec.ofChange memberMovesWrong)

/-- 'leatlaw25.QueryRoom': WHATEVER THE INPUT: true; the input reads as it did. -/
def queryRoomSpec : ChangeSpec := { name := "queryRoom", fn := fun _ => fun
  | [d1, d2, d3, d4, d5] => { results := [.lit (.bool true)], args := [d1, d2, d3, d4, d5] }
  | _ => none }
def queryRoomRow : OpenClaim := { program := "ytahbiajdgealnaagreatdoor", sum := "3676cc9765907f40d9570eba146c908f0e08bd4b63ae498d971f34a4d86022ac", func := "leat/leatlaw25.QueryRoom", spec := "queryRoom", unfollowed := true, recurses := true, named := ["leat/ledger.kinds"], plainKeys := false, apart := false, laid := [("leat/ledger.kinds", laid_leat_ledger_kinds)] }
def QueryRoomSaid : Prop := queryRoomRow.holds Tryz.pinned (OpenSpec.ofChange queryRoomSpec)

/-- ITS FALSE NEIGHBOUR: 'it returns false'. Refute it at one input. -/
def queryRoomWrong : ChangeSpec := { name := "queryRoom", fn := fun _ => fun
  | [d1, d2, d3, d4, d5] => { results := [.lit (.bool false)], args := [d1, d2, d3, d4, d5] }
  | _ => none }
def QueryRoomWrongFalsely : Prop := queryRoomRow.holds Tryz.pinned (OpenSpec.ofChange queryRoomWrong)

/- THE SECOND FORM. 'bulk': how many values and letters a reading holds, each counted each time it is reached (what is shared counts as often as it is met; a slice's spare places count too). A statement '..UptoSaid' is the law's where the arguments, and the package variables that the reading takes, are together of bulk at most 1048576: NARROWER than '..Said'. Prove '..Said' where nothing that the law and all that it calls make is longer than what came in: it says more and counts as full. Else prove '..UptoSaid'. A law counts once. -/
mutual
def uptoBulk {H : Type} : DataW H → Nat
  | .lit (.string bytes) => bytes.length + 1
  | .lit _ => 1
  | .nil => 1
  | .ptr d => uptoBulk d + 1
  | .slice elems spare => uptoBulkAll elems + uptoBulkAll spare + 1
  | .agg parts => uptoBulkAll parts + 1
  | .iface _ d => uptoBulk d + 1
  | .map entries => uptoBulkEntries entries + 1
  | .held _ => 1
def uptoBulkAll {H : Type} : List (DataW H) → Nat
  | [] => 0
  | d :: r => uptoBulk d + uptoBulkAll r
def uptoBulkEntries {H : Type} : List (Lit × DataW H) → Nat
  | [] => 0
  | x :: r => uptoBulkEntry x + uptoBulkEntries r
def uptoBulkEntry {H : Type} : Lit × DataW H → Nat
  | (.string bytes, d) => bytes.length + uptoBulk d + 1
  | (_, d) => uptoBulk d + 1
 end
def uptoSmall : (H : Type) → List (DataW H) → Bool := fun _ ds => decide (uptoBulkAll ds ≤ 1048576)
def OpenSpec.upto (s : _root_.Go.ChangeSpec) : _root_.Go.OpenSpec := { _root_.Go.OpenSpec.ofChange s with cond := some uptoSmall }

/-- 'leatlaw11.LedgerOrder', WHERE WHAT IT READS IS OF BULK AT MOST 1048576: true; the input reads as it did. -/
def ledgerOrderUptoRow : OpenClaim := { program := "ytahbiajdgealnaagreatdoor", sum := "3676cc9765907f40d9570eba146c908f0e08bd4b63ae498d971f34a4d86022ac", func := "leat/leatlaw11.LedgerOrder", spec := "ledgerOrder", unfollowed := true, recurses := true, named := ["leat/ledger.kinds"], plainKeys := false, apart := false, laid := [("leat/ledger.kinds", laid_leat_ledger_kinds)], narrowed := true }
def LedgerOrderUptoSaid : Prop := ledgerOrderUptoRow.holds Tryz.pinned (OpenSpec.upto ledgerOrderSpec)

/-- 'leatlaw11.LedgerBound', WHERE WHAT IT READS IS OF BULK AT MOST 1048576: true; the input reads as it did. -/
def ledgerBoundUptoRow : OpenClaim := { program := "ytahbiajdgealnaagreatdoor", sum := "3676cc9765907f40d9570eba146c908f0e08bd4b63ae498d971f34a4d86022ac", func := "leat/leatlaw11.LedgerBound", spec := "ledgerBound", unfollowed := true, recurses := true, named := ["leat/ledger.kinds"], plainKeys := false, apart := false, laid := [("leat/ledger.kinds", laid_leat_ledger_kinds)], narrowed := true }
def LedgerBoundUptoSaid : Prop := ledgerBoundUptoRow.holds Tryz.pinned (OpenSpec.upto ledgerBoundSpec)

/-- 'leatlaw11.LedgerWhole', WHERE WHAT IT READS IS OF BULK AT MOST 1048576: true; the input reads as it did. -/
def ledgerWholeUptoRow : OpenClaim := { program := "ytahbiajdgealnaagreatdoor", sum := "3676cc9765907f40d9570eba146c908f0e08bd4b63ae498d971f34a4d86022ac", func := "leat/leatlaw11.LedgerWhole", spec := "ledgerWhole", unfollowed := true, recurses := true, named := ["leat/ledger.kinds"], plainKeys := false, apart := false, laid := [("leat/ledger.kinds", laid_leat_ledger_kinds)], narrowed := true }
def LedgerWholeUptoSaid : Prop := ledgerWholeUptoRow.holds Tryz.pinned (OpenSpec.upto ledgerWholeSpec)

/-- 'leatlaw11.LedgerTurned', WHERE WHAT IT READS IS OF BULK AT MOST 1048576: true; the input reads as it did. -/
def ledgerTurnedUptoRow : OpenClaim := { program := "ytahbiajdgealnaagreatdoor", sum := "3676cc9765907f40d9570eba146c908f0e08bd4b63ae498d971f34a4d86022ac", func := "leat/leatlaw11.LedgerTurned", spec := "ledgerTurned", unfollowed := true, recurses := true, named := ["leat/ledger.kinds"], plainKeys := false, apart := false, laid := [("leat/ledger.kinds", laid_leat_ledger_kinds)], narrowed := true }
def LedgerTurnedUptoSaid : Prop := ledgerTurnedUptoRow.holds Tryz.pinned (OpenSpec.upto ledgerTurnedSpec)

/-- 'leatlaw11.LedgerPlays', WHERE WHAT IT READS IS OF BULK AT MOST 1048576: true; the input reads as it did. -/
def ledgerPlaysUptoRow : OpenClaim := { program := "ytahbiajdgealnaagreatdoor", sum := "3676cc9765907f40d9570eba146c908f0e08bd4b63ae498d971f34a4d86022ac", func := "leat/leatlaw11.LedgerPlays", spec := "ledgerPlays", unfollowed := true, recurses := true, named := ["leat/ledger.kinds"], plainKeys := false, apart := false, laid := [("leat/ledger.kinds", laid_leat_ledger_kinds)], narrowed := true }
def LedgerPlaysUptoSaid : Prop := ledgerPlaysUptoRow.holds Tryz.pinned (OpenSpec.upto ledgerPlaysSpec)

/-- 'leatlaw19.MemberMoves', WHERE WHAT IT READS IS OF BULK AT MOST 1048576: true; the input reads as it did. -/
def memberMovesUptoRow : OpenClaim := { program := "ytahbiajdgealnaagreatdoor", sum := "3676cc9765907f40d9570eba146c908f0e08bd4b63ae498d971f34a4d86022ac", func := "leat/leatlaw19.MemberMoves", spec := "memberMoves", unfollowed := true, recurses := true, named := ["leat/ledger.kinds"], plainKeys := false, apart := false, laid := [("leat/ledger.kinds", laid_leat_ledger_kinds)], narrowed := true }
def MemberMovesUptoSaid : Prop := memberMovesUptoRow.holds Tryz.pinned (OpenSpec.upto memberMovesSpec)

/-- 'leatlaw25.QueryRoom', WHERE WHAT IT READS IS OF BULK AT MOST 1048576: true; the input reads as it did. -/
def queryRoomUptoRow : OpenClaim := { program := "ytahbiajdgealnaagreatdoor", sum := "3676cc9765907f40d9570eba146c908f0e08bd4b63ae498d971f34a4d86022ac", func := "leat/leatlaw25.QueryRoom", spec := "queryRoom", unfollowed := true, recurses := true, named := ["leat/ledger.kinds"], plainKeys := false, apart := false, laid := [("leat/ledger.kinds", laid_leat_ledger_kinds)], narrowed := true }
def QueryRoomUptoSaid : Prop := queryRoomUptoRow.holds Tryz.pinned (OpenSpec.upto queryRoomSpec)

end Rows
end Go.Proofs.YtahbiajdgealnaaGreatDoor
