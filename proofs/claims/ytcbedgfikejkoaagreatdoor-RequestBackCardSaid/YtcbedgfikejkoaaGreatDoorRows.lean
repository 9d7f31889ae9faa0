/-
  NARROWER THAN 'FOR EVERY INPUT', by the rows' own cells (each row's printed sentence says how): AdmitPlays: laid · AdmitTaken: laid · RequestPlays: laid · RequestBack: laid · MemberLeaves: laid · SnapJoins: laid.
  DERIVED. THE GIVEN ROWS OF THIS SEAT. 6 by the template 'for every input the law returns true; each argument reads behind the call as it read before'; 0 by the template 'total and deterministic' (their statements: YtcbedgfikejkoaaGreatDoorTotals.lean).
  GIVEN WITH THE SEED: the statements are not yours to turn. If you find one false, say at which input.
  Laid BY PROGRAM, IN A SANDBOX (cutbox-rows.mjs): the forced cells as the released guide's own fill.sh prints them over the translation eb28ddf0a7f4c69d… (all of the seat's roots in one cut). By AI agents, Wed Nov 11 2026. No macro, syntax, notation, axiom, sorry.
-/
import Derived.Test.YtcbedgfikejkoaaGreatDoorChecked
import GoSem.Claim
import GoSem.ClaimJoined
import GoSem.ClaimMapViews
import Derived.JoinedTies
import Derived.KernelRfl
namespace Go.Proofs.YtcbedgfikejkoaaGreatDoor
/- THE CELL 'sum', in the pinned program and in every row, IS THE sha256 OF THE DUMP (.gsa) THAT YtcbedgfikejkoaaGreatDoorProg.lean LOADS. Nothing in Lean hashes anything: it is a label: what it is worth is what the hold of that sum in a sandbox is worth. -/
noncomputable def Tryz.pinned : Pinned := { name := "ytcbedgfikejkoaagreatdoor", sum := "eb28ddf0a7f4c69d4cd2bea94203298f9201a9958d6cfdb8185044bb9abb84a6", checked := Tryz.checked }
namespace Rows
def none {H : Type} : Left H := { results := [], args := [] }

/- WHAT THE LISTED PACKAGE-LEVEL VARIABLES READ AS WHEN THE CALL BEGINS. Each datum BY PROGRAM (the guide's laid-datum.mjs) off the statement by which the dump's own 'gosem.cut.vars' lays the variable. In a bare row this is a premise. The card (YtcbedgfikejkoaaGreatDoorCards.lean) ties it to the program's text. -/
def laid_leat_ledger_kinds {H : Type} : DataW H := .iface "func table" (.agg [.nil, .iface "func" (.lit (.string [40, 42, 108, 101, 97, 116, 47, 108, 101, 100, 103, 101, 114, 46, 76, 101, 100, 103, 101, 114, 41, 46, 109, 97, 107, 101, 115])), .iface "func" (.lit (.string [40, 42, 108, 101, 97, 116, 47, 108, 101, 100, 103, 101, 114, 46, 76, 101, 100, 103, 101, 114, 41, 46, 114, 97, 105, 115, 101, 115])), .iface "func" (.lit (.string [40, 42, 108, 101, 97, 116, 47, 108, 101, 100, 103, 101, 114, 46, 76, 101, 100, 103, 101, 114, 41, 46, 116, 97, 107, 101, 115])), .iface "func" (.lit (.string [40, 42, 108, 101, 97, 116, 47, 108, 101, 100, 103, 101, 114, 46, 76, 101, 100, 103, 101, 114, 41, 46, 102, 114, 101, 101, 115])), .iface "func" (.lit (.string [40, 42, 108, 101, 97, 116, 47, 108, 101, 100, 103, 101, 114, 46, 76, 101, 100, 103, 101, 114, 41, 46, 109, 111, 118, 101, 115])), .iface "func" (.lit (.string [40, 42, 108, 101, 97, 116, 47, 108, 101, 100, 103, 101, 114, 46, 76, 101, 100, 103, 101, 114, 41, 46, 106, 111, 105, 110, 115])), .iface "func" (.lit (.string [40, 42, 108, 101, 97, 116, 47, 108, 101, 100, 103, 101, 114, 46, 76, 101, 100, 103, 101, 114, 41, 46, 108, 101, 97, 118, 101, 115]))])

/-- 'leatlaw12.AdmitPlays': WHATEVER THE INPUT: true; the input reads as it did. -/
def admitPlaysSpec : ChangeSpec := { name := "admitPlays", fn := fun _ => fun
  | [d1, d2, d3, d4, d5, d6] => { results := [.lit (.bool true)], args := [d1, d2, d3, d4, d5, d6] }
  | _ => none }
def admitPlaysRow : OpenClaim := { program := "ytcbedgfikejkoaagreatdoor", sum := "eb28ddf0a7f4c69d4cd2bea94203298f9201a9958d6cfdb8185044bb9abb84a6", func := "leat/leatlaw12.AdmitPlays", spec := "admitPlays", unfollowed := true, recurses := true, named := ["leat/ledger.kinds"], plainKeys := false, apart := false, laid := [("leat/ledger.kinds", laid_leat_ledger_kinds)] }
def AdmitPlaysSaid : Prop := admitPlaysRow.holds Tryz.pinned (OpenSpec.ofChange admitPlaysSpec)

/-- ITS FALSE NEIGHBOUR: 'it returns false'. Refute it at one input. -/
def admitPlaysWrong : ChangeSpec := { name := "admitPlays", fn := fun _ => fun
  | [d1, d2, d3, d4, d5, d6] => { results := [.lit (.bool false)], args := [d1, d2, d3, d4, d5, d6] }
  | _ => none }
def AdmitPlaysWrongFalsely : Prop := admitPlaysRow.holds Tryz.pinned (OpenSpec.ofChange admitPlaysWrong)

/-- 'leatlaw12.AdmitTaken': WHATEVER THE INPUT: true; the input reads as it did. -/
def admitTakenSpec : ChangeSpec := { name := "admitTaken", fn := fun _ => fun
  | [d1, d2, d3, d4, d5, d6] => { results := [.lit (.bool true)], args := [d1, d2, d3, d4, d5, d6] }
  | _ => none }
def admitTakenRow : OpenClaim := { program := "ytcbedgfikejkoaagreatdoor", sum := "eb28ddf0a7f4c69d4cd2bea94203298f9201a9958d6cfdb8185044bb9abb84a6", func := "leat/leatlaw12.AdmitTaken", spec := "admitTaken", unfollowed := true, recurses := true, named := ["leat/ledger.kinds"], plainKeys := false, apart := false, laid := [("leat/ledger.kinds", laid_leat_ledger_kinds)] }
def AdmitTakenSaid : Prop := admitTakenRow.holds Tryz.pinned (OpenSpec.ofChange admitTakenSpec)

/-- ITS FALSE NEIGHBOUR: 'it returns false'. Refute it at one input. -/
def admitTakenWrong : ChangeSpec := { name := "admitTaken", fn := fun _ => fun
  | [d1, d2, d3, d4, d5, d6] => { results := [.lit (.bool false)], args := [d1, d2, d3, d4, d5, d6] }
  | _ => none }
def AdmitTakenWrongFalsely : Prop := admitTakenRow.holds Tryz.pinned (OpenSpec.ofChange admitTakenWrong)

/-- 'leatlaw13.RequestPlays': WHATEVER THE INPUT: true; the input reads as it did. -/
def requestPlaysSpec : ChangeSpec := { name := "requestPlays", fn := fun _ => fun
  | [d1, d2, d3, d4, d5, d6] => { results := [.lit (.bool true)], args := [d1, d2, d3, d4, d5, d6] }
  | _ => none }
def requestPlaysRow : OpenClaim := { program := "ytcbedgfikejkoaagreatdoor", sum := "eb28ddf0a7f4c69d4cd2bea94203298f9201a9958d6cfdb8185044bb9abb84a6", func := "leat/leatlaw13.RequestPlays", spec := "requestPlays", unfollowed := true, recurses := true, named := ["leat/ledger.kinds"], plainKeys := false, apart := false, laid := [("leat/ledger.kinds", laid_leat_ledger_kinds)] }
def RequestPlaysSaid : Prop := requestPlaysRow.holds Tryz.pinned (OpenSpec.ofChange requestPlaysSpec)

/-- ITS FALSE NEIGHBOUR: 'it returns false'. Refute it at one input. -/
def requestPlaysWrong : ChangeSpec := { name := "requestPlays", fn := fun _ => fun
  | [d1, d2, d3, d4, d5, d6] => { results := [.lit (.bool false)], args := [d1, d2, d3, d4, d5, d6] }
  | _ => none }
def RequestPlaysWrongFalsely : Prop := requestPlaysRow.holds Tryz.pinned (OpenSpec.ofChange requestPlaysWrong)

/-- 'leatlaw13.RequestBack': WHATEVER THE INPUT: true; the input reads as it did. -/
def requestBackSpec : ChangeSpec := { name := "requestBack", fn := fun _ => fun
  | [d1, d2, d3, d4, d5] => { results := [.lit (.bool true)], args := [d1, d2, d3, d4, d5] }
  | _ => none }
def requestBackRow : OpenClaim := { program := "ytcbedgfikejkoaagreatdoor", sum := "eb28ddf0a7f4c69d4cd2bea94203298f9201a9958d6cfdb8185044bb9abb84a6", func := "leat/leatlaw13.RequestBack", spec := "requestBack", unfollowed := true, recurses := true, named := ["leat/ledger.kinds"], plainKeys := false, apart := false, laid := [("leat/ledger.kinds", laid_leat_ledger_kinds)] }
def RequestBackSaid : Prop := requestBackRow.holds Tryz.pinned (OpenSpec.ofChange requestBackSpec)

/-- ITS FALSE NEIGHBOUR: 'it returns false'. Refute it at one input. -/
def requestBackWrong : ChangeSpec := { name := "requestBack", fn := fun _ => fun
  | [d1, d2, d3, d4, d5] => { results := [.lit (.bool false)], args := [d1, d2, d3, d4, d5] }
  | _ => none }
def RequestBackWrongFalsely : Prop := requestBackRow.holds Tryz.pinned (OpenSpec.ofChange requestBackWrong)

/-- 'leatlaw19.MemberLeaves': WHATEVER THE INPUT: true; the input reads as it did. -/
def memberLeavesSpec : ChangeSpec := { name := "memberLeaves", fn := fun _ => fun
  | [d1, d2, d3, d4] => { results := [.lit (.bool true)], args := [d1, d2, d3, d4] }
  | _ => none }
def memberLeavesRow : OpenClaim := { program := "ytcbedgfikejkoaagreatdoor", sum := "eb28ddf0a7f4c69d4cd2bea94203298f9201a9958d6cfdb8185044bb9abb84a6", func := "leat/leatlaw19.MemberLeaves", spec := "memberLeaves", unfollowed := true, recurses := true, named := ["leat/ledger.kinds"], plainKeys := false, apart := false, laid := [("leat/ledger.kinds", laid_leat_ledger_kinds)] }
def MemberLeavesSaid : Prop := memberLeavesRow.holds Tryz.pinned (OpenSpec.ofChange memberLeavesSpec)

/-- ITS FALSE NEIGHBOUR: 'it returns false'. Refute it at one input. -/
def memberLeavesWrong : ChangeSpec := { name := "memberLeaves", fn := fun _ => fun
  | [d1, d2, d3, d4] => { results := [.lit (.bool false)], args := [d1, d2, d3, d4] }
  | _ => none }
def MemberLeavesWrongFalsely : Prop := memberLeavesRow.holds Tryz.pinned (OpenSpec.ofChange memberLeavesWrong)

/-- 'leatlaw32.SnapJoins': WHATEVER THE INPUT: true; the input reads as it did. -/
def snapJoinsSpec : ChangeSpec := { name := "snapJoins", fn := fun _ => fun
  | [d1, d2, d3, d4] => { results := [.lit (.bool true)], args := [d1, d2, d3, d4] }
  | _ => none }
def snapJoinsRow : OpenClaim := { program := "ytcbedgfikejkoaagreatdoor", sum := "eb28ddf0a7f4c69d4cd2bea94203298f9201a9958d6cfdb8185044bb9abb84a6", func := "leat/leatlaw32.SnapJoins", spec := "snapJoins", unfollowed := true, recurses := true, named := ["leat/ledger.kinds"], plainKeys := false, apart := false, laid := [("leat/ledger.kinds", laid_leat_ledger_kinds)] }
def SnapJoinsSaid : Prop := snapJoinsRow.holds Tryz.pinned (OpenSpec.ofChange snapJoinsSpec)

/-- ITS FALSE NEIGHBOUR: 'it returns false'. Refute it at one input. -/
def snapJoinsWrong : ChangeSpec := { name := "snapJoins", fn := fun _ => fun
  | [d1, d2, d3, d4] => { results := [.lit (.bool false)], args := [d1, d2, d3, d4] }
  | _ => none }
def SnapJoinsWrongFalsely : Prop := snapJoinsRow.holds Tryz.pinned (OpenSpec.ofChange snapJoinsWrong)

/- THE SECOND FORM. 'bulk': how many values and letters a reading holds, each counted each time it is reached (what is shared counts as often as it is met; a slice's spare places count too). A statement '..UptoSaid' is the law's where the arguments, and the package variables that the reading takes, are together of bulk at most 1048576: NARROWER than '..Said'. Prove '..Said' where nothing that the law and all that it calls make is longer than what came in: it says more and counts as full. Else prove '..UptoSaid'. A law counts once. -/
mutual
def uptoBulk {H : Type} : DataW H → Nat
  | .lit (.string bytes) => bytes.length + 1
  | .lit _ => 1
  | .nil => 1
  | .ptr d => uptoBulk d + 1
  | .slice elems spare => uptoBulkAll elems + uptoBulkAll spare + 1
  | .agg parts => uptoBulkAll parts + 1
  | .iface _ d => uptoBulk d + 1
  | .map entries => uptoBulkEntries entries + 1
  | .held _ => 1
def uptoBulkAll {H : Type} : List (DataW H) → Nat
  | [] => 0
  | d :: r => uptoBulk d + uptoBulkAll r
def uptoBulkEntries {H : Type} : List (Lit × DataW H) → Nat
  | [] => 0
  | x :: r => uptoBulkEntry x + uptoBulkEntries r
def uptoBulkEntry {H : Type} : Lit × DataW H → Nat
  | (.string bytes, d) => bytes.length + uptoBulk d + 1
  | (_, d) => uptoBulk d + 1
 end
def uptoSmall : (H : Type) → List (DataW H) → Bool := fun _ ds => decide (uptoBulkAll ds ≤ 1048576)
def OpenSpec.upto (s : _root_.Go.ChangeSpec) : _root_.Go.OpenSpec := { _root_.Go.OpenSpec.ofChange s with cond := some uptoSmall }

/-- 'leatlaw12.AdmitPlays', WHERE WHAT IT READS IS OF BULK AT MOST 1048576: true; the input reads as it did. -/
def admitPlaysUptoRow : OpenClaim := { program := "ytcbedgfikejkoaagreatdoor", sum := "eb28ddf0a7f4c69d4cd2bea94203298f9201a9958d6cfdb8185044bb9abb84a6", func := "leat/leatlaw12.AdmitPlays", spec := "admitPlays", unfollowed := true, recurses := true, named := ["leat/ledger.kinds"], plainKeys := false, apart := false, laid := [("leat/ledger.kinds", laid_leat_ledger_kinds)], narrowed := true }
def AdmitPlaysUptoSaid : Prop := admitPlaysUptoRow.holds Tryz.pinned (OpenSpec.upto admitPlaysSpec)

/-- 'leatlaw12.AdmitTaken', WHERE WHAT IT READS IS OF BULK AT MOST 1048576: true; the input reads as it did. -/
def admitTakenUptoRow : OpenClaim := { program := "ytcbedgfikejkoaagreatdoor", sum := "eb28ddf0a7f4c69d4cd2bea94203298f9201a9958d6cfdb8185044bb9abb84a6", func := "leat/leatlaw12.AdmitTaken", spec := "admitTaken", unfollowed := true, recurses := true, named := ["leat/ledger.kinds"], plainKeys := false, apart := false, laid := [("leat/ledger.kinds", laid_leat_ledger_kinds)], narrowed := true }
def AdmitTakenUptoSaid : Prop := admitTakenUptoRow.holds Tryz.pinned (OpenSpec.upto admitTakenSpec)

/-- 'leatlaw13.RequestPlays', WHERE WHAT IT READS IS OF BULK AT MOST 1048576: true; the input reads as it did. -/
def requestPlaysUptoRow : OpenClaim := { program := "ytcbedgfikejkoaagreatdoor", sum := "eb28ddf0a7f4c69d4cd2bea94203298f9201a9958d6cfdb8185044bb9abb84a6", func := "leat/leatlaw13.RequestPlays", spec := "requestPlays", unfollowed := true, recurses := true, named := ["leat/ledger.kinds"], plainKeys := false, apart := false, laid := [("leat/ledger.kinds", laid_leat_ledger_kinds)], narrowed := true }
def RequestPlaysUptoSaid : Prop := requestPlaysUptoRow.holds Tryz.pinned (OpenSpec.upto requestPlaysSpec)

/-- 'leatlaw13.RequestBack', WHERE WHAT IT READS IS OF BULK AT MOST 1048576: true; the input reads as it did. -/
def requestBackUptoRow : OpenClaim := { program := "ytcbedgfikejkoaagreatdoor", sum := "eb28ddf0a7f4c69d4cd2bea94203298f9201a9958d6cfdb8185044bb9abb84a6", func := "leat/leatlaw13.RequestBack", spec := "requestBack", unfollowed := true, recurses := true, named := ["leat/ledger.kinds"], plainKeys := false, apart := false, laid := [("leat/ledger.kinds", laid_leat_ledger_kinds)], narrowed := true }
def RequestBackUptoSaid : Prop := requestBackUptoRow.holds Tryz.pinned (OpenSpec.upto requestBackSpec)

/-- 'leatlaw19.MemberLeaves', WHERE WHAT IT READS IS OF BULK AT MOST 1048576: true; the input reads as it did. -/
def memberLeavesUptoRow : OpenClaim := { program := "ytcbedgfikejkoaagreatdoor", sum := "eb28ddf0a7f4c69d4cd2bea94203298f9201a9958d6cfdb8185044bb9abb84a6", func := "leat/leatlaw19.MemberLeaves", spec := "memberLeaves", unfollowed := true, recurses := true, named := ["leat/ledger.kinds"], plainKeys := false, apart := false, laid := [("leat/ledger.kinds", laid_leat_ledger_kinds)], narrowed := true }
def MemberLeavesUptoSaid : Prop := memberLeavesUptoRow.holds Tryz.pinned (OpenSpec.upto memberLeavesSpec)

/-- 'leatlaw32.SnapJoins', WHERE WHAT IT READS IS OF BULK AT MOST 1048576: true; the input reads as it did. -/
def snapJoinsUptoRow : OpenClaim := { program := "ytcbedgfikejkoaagreatdoor", sum := "eb28ddf0a7f4c69d4cd2bea94203298f9201a9958d6cfdb8185044bb9abb84a6", func := "leat/leatlaw32.SnapJoins", spec := "snapJoins", unfollowed := true, recurses := true, named := ["leat/ledger.kinds"], plainKeys := false, apart := false, laid := [("leat/ledger.kinds", laid_leat_ledger_kinds)], narrowed := true }
def SnapJoinsUptoSaid : Prop := snapJoinsUptoRow.holds Tryz.pinned (OpenSpec.upto snapJoinsSpec)

end Rows
end Go.Proofs.YtcbedgfikejkoaaGreatDoor
