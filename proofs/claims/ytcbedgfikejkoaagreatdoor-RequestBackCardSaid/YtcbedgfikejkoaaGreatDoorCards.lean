/-
  DERIVED. GIVEN WITH THE SEED: THE CARDS: each row of YtcbedgfikejkoaaGreatDoorRows.lean that lists a variable, with what it lists TIED to the program's text (the seventh form; the later family's looks); each row that meets fmt, with fmt's text TOLD by the authors' own Lean function (tested against real Go, not proved from fmt's source: count such statements apart). THE CARD IS WHAT COUNTS. Prove the row's statement (the work); the ties are given (YtcbedgfikejkoaaGreatDoorTie.lean); close each card by the builder's one call (the guide's Derived/Test/ToyasCard.lean, 'card_holds'). Laid BY PROGRAM, IN A SANDBOX (cutbox-door.mjs). By AI agents, Wed Nov 11 2026. No macro, syntax, notation, axiom, sorry.
-/
import Derived.Test.YtcbedgfikejkoaaGreatDoorRows
import GoSem.ClaimSeven
namespace Go.Proofs.YtcbedgfikejkoaaGreatDoor
namespace Rows

/-- THE TIED CARD OF 'leatlaw12.AdmitPlays'. -/
def admitPlaysCard : Claim7 := { stood := { row := admitPlaysRow, standIns := [], harness := (true, "17fafe4f8453da9a536e2f7d4ff66c04a684f955bf71406f920788ad6fc263c5"), looks := false }, kinds := [], alts := [], laidByText := true, laidKinds := [.funcs], laidTests := true, laidLooks := .later }
def AdmitPlaysCardSaid : Prop := Claim7.holds Tryz.pinned (.plain (OpenSpec.ofChange admitPlaysSpec)) admitPlaysCard

/-- THE TIED CARD OF 'leatlaw12.AdmitTaken'. -/
def admitTakenCard : Claim7 := { stood := { row := admitTakenRow, standIns := [], harness := (true, "17fafe4f8453da9a536e2f7d4ff66c04a684f955bf71406f920788ad6fc263c5"), looks := false }, kinds := [], alts := [], laidByText := true, laidKinds := [.funcs], laidTests := true, laidLooks := .later }
def AdmitTakenCardSaid : Prop := Claim7.holds Tryz.pinned (.plain (OpenSpec.ofChange admitTakenSpec)) admitTakenCard

/-- THE TIED CARD OF 'leatlaw13.RequestPlays'. -/
def requestPlaysCard : Claim7 := { stood := { row := requestPlaysRow, standIns := [], harness := (true, "17fafe4f8453da9a536e2f7d4ff66c04a684f955bf71406f920788ad6fc263c5"), looks := false }, kinds := [], alts := [], laidByText := true, laidKinds := [.funcs], laidTests := true, laidLooks := .later }
def RequestPlaysCardSaid : Prop := Claim7.holds Tryz.pinned (.plain (OpenSpec.ofChange requestPlaysSpec)) requestPlaysCard

/-- THE TIED CARD OF 'leatlaw13.RequestBack'. -/
def requestBackCard : Claim7 := { stood := { row := requestBackRow, standIns := [], harness := (true, "17fafe4f8453da9a536e2f7d4ff66c04a684f955bf71406f920788ad6fc263c5"), looks := false }, kinds := [], alts := [], laidByText := true, laidKinds := [.funcs], laidTests := true, laidLooks := .later }
def RequestBackCardSaid : Prop := Claim7.holds Tryz.pinned (.plain (OpenSpec.ofChange requestBackSpec)) requestBackCard

/-- THE TIED CARD OF 'leatlaw19.MemberLeaves'. -/
def memberLeavesCard : Claim7 := { stood := { row := memberLeavesRow, standIns := [], harness := (true, "17fafe4f8453da9a536e2f7d4ff66c04a684f955bf71406f920788ad6fc263c5"), looks := false }, kinds := [], alts := [], laidByText := true, laidKinds := [.funcs], laidTests := true, laidLooks := .later }
def MemberLeavesCardSaid : Prop := Claim7.holds Tryz.pinned (.plain (OpenSpec.ofChange memberLeavesSpec)) memberLeavesCard

/-- THE TIED CARD OF 'leatlaw32.SnapJoins'. -/
def snapJoinsCard : Claim7 := { stood := { row := snapJoinsRow, standIns := [], harness := (true, "17fafe4f8453da9a536e2f7d4ff66c04a684f955bf71406f920788ad6fc263c5"), looks := false }, kinds := [], alts := [], laidByText := true, laidKinds := [.funcs], laidTests := true, laidLooks := .later }
def SnapJoinsCardSaid : Prop := Claim7.holds Tryz.pinned (.plain (OpenSpec.ofChange snapJoinsSpec)) snapJoinsCard

/-- THE SECOND FORM's CARD OF 'leatlaw12.AdmitPlays'. -/
def admitPlaysUptoCard : Claim7 := { stood := { row := admitPlaysUptoRow, standIns := [], harness := (true, "17fafe4f8453da9a536e2f7d4ff66c04a684f955bf71406f920788ad6fc263c5"), looks := false }, kinds := [], alts := [], laidByText := true, laidKinds := [.funcs], laidTests := true, laidLooks := .later }
def AdmitPlaysUptoCardSaid : Prop := Claim7.holds Tryz.pinned (.plain (OpenSpec.upto admitPlaysSpec)) admitPlaysUptoCard

/-- THE SECOND FORM's CARD OF 'leatlaw12.AdmitTaken'. -/
def admitTakenUptoCard : Claim7 := { stood := { row := admitTakenUptoRow, standIns := [], harness := (true, "17fafe4f8453da9a536e2f7d4ff66c04a684f955bf71406f920788ad6fc263c5"), looks := false }, kinds := [], alts := [], laidByText := true, laidKinds := [.funcs], laidTests := true, laidLooks := .later }
def AdmitTakenUptoCardSaid : Prop := Claim7.holds Tryz.pinned (.plain (OpenSpec.upto admitTakenSpec)) admitTakenUptoCard

/-- THE SECOND FORM's CARD OF 'leatlaw13.RequestPlays'. -/
def requestPlaysUptoCard : Claim7 := { stood := { row := requestPlaysUptoRow, standIns := [], harness := (true, "17fafe4f8453da9a536e2f7d4ff66c04a684f955bf71406f920788ad6fc263c5"), looks := false }, kinds := [], alts := [], laidByText := true, laidKinds := [.funcs], laidTests := true, laidLooks := .later }
def RequestPlaysUptoCardSaid : Prop := Claim7.holds Tryz.pinned (.plain (OpenSpec.upto requestPlaysSpec)) requestPlaysUptoCard

/-- THE SECOND FORM's CARD OF 'leatlaw13.RequestBack'. -/
def requestBackUptoCard : Claim7 := { stood := { row := requestBackUptoRow, standIns := [], harness := (true, "17fafe4f8453da9a536e2f7d4ff66c04a684f955bf71406f920788ad6fc263c5"), looks := false }, kinds := [], alts := [], laidByText := true, laidKinds := [.funcs], laidTests := true, laidLooks := .later }
def RequestBackUptoCardSaid : Prop := Claim7.holds Tryz.pinned (.plain (OpenSpec.upto requestBackSpec)) requestBackUptoCard

/-- THE SECOND FORM's CARD OF 'leatlaw19.MemberLeaves'. -/
def memberLeavesUptoCard : Claim7 := { stood := { row := memberLeavesUptoRow, standIns := [], harness := (true, "17fafe4f8453da9a536e2f7d4ff66c04a684f955bf71406f920788ad6fc263c5"), looks := false }, kinds := [], alts := [], laidByText := true, laidKinds := [.funcs], laidTests := true, laidLooks := .later }
def MemberLeavesUptoCardSaid : Prop := Claim7.holds Tryz.pinned (.plain (OpenSpec.upto memberLeavesSpec)) memberLeavesUptoCard

/-- THE SECOND FORM's CARD OF 'leatlaw32.SnapJoins'. -/
def snapJoinsUptoCard : Claim7 := { stood := { row := snapJoinsUptoRow, standIns := [], harness := (true, "17fafe4f8453da9a536e2f7d4ff66c04a684f955bf71406f920788ad6fc263c5"), looks := false }, kinds := [], alts := [], laidByText := true, laidKinds := [.funcs], laidTests := true, laidLooks := .later }
def SnapJoinsUptoCardSaid : Prop := Claim7.holds Tryz.pinned (.plain (OpenSpec.upto snapJoinsSpec)) snapJoinsUptoCard
end Rows
end Go.Proofs.YtcbedgfikejkoaaGreatDoor
