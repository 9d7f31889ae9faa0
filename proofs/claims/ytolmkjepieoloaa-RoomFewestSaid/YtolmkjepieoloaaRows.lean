/-
  No cell of these rows narrows 'for every input' (looked for: loops, veiled, ifaces, maps, wideKeys, modest, calm, conditions, laid).
  DERIVED. THE GIVEN ROWS OF THIS SEAT. 12 by the template 'for every input the law returns true; each argument reads behind the call as it read before'; 0 by the template 'total and deterministic' (their statements: YtolmkjepieoloaaTotals.lean).
  GIVEN WITH THE SEED: the statements are not yours to turn. If you find one false, say at which input.
  Laid BY PROGRAM, IN A SANDBOX (cutbox-rows.mjs): the forced cells as the released guide's own fill.sh prints them over the translation 3c911fd3fd9f1eb6… (all of the seat's roots in one cut). By AI agents, Wed Nov 11 2026. No macro, syntax, notation, axiom, sorry.
-/
import Derived.Test.YtolmkjepieoloaaChecked
import GoSem.Claim
import GoSem.ClaimJoined
import GoSem.ClaimMapViews
import Derived.JoinedTies
import Derived.KernelRfl
namespace Go.Proofs.Ytolmkjepieoloaa
/- THE CELL 'sum', in the pinned program and in every row, IS THE sha256 OF THE DUMP (.gsa) THAT YtolmkjepieoloaaProg.lean LOADS. Nothing in Lean hashes anything: it is a label: what it is worth is what the hold of that sum in a sandbox is worth. -/
noncomputable def Try.pinned : Pinned := { name := "ytolmkjepieoloaa", sum := "3c911fd3fd9f1eb6e1fd645cc81cd2a78a7099e91601c0853aedb226045f23d5", checked := Try.checked }
namespace Rows
def none {H : Type} : Left H := { results := [], args := [] }

/-- 'leatlaw17.GossipRises': WHATEVER THE INPUT: true; the input reads as it did. -/
def gossipRisesSpec : ChangeSpec := { name := "gossipRises", fn := fun _ => fun
  | [d1, d2] => { results := [.lit (.bool true)], args := [d1, d2] }
  | _ => none }
def gossipRisesRow : OpenClaim := { program := "ytolmkjepieoloaa", sum := "3c911fd3fd9f1eb6e1fd645cc81cd2a78a7099e91601c0853aedb226045f23d5", func := "leat/leatlaw17.GossipRises", spec := "gossipRises", unfollowed := true, recurses := true, apart := false }
def GossipRisesSaid : Prop := gossipRisesRow.holds Try.pinned (OpenSpec.ofChange gossipRisesSpec)

/-- ITS FALSE NEIGHBOUR: 'it returns false'. Refute it at one input. -/
def gossipRisesWrong : ChangeSpec := { name := "gossipRises", fn := fun _ => fun
  | [d1, d2] => { results := [.lit (.bool false)], args := [d1, d2] }
  | _ => none }
def GossipRisesWrongFalsely : Prop := gossipRisesRow.holds Try.pinned (OpenSpec.ofChange gossipRisesWrong)

/-- 'leatlaw14.DonorPlays': WHATEVER THE INPUT: true; the input reads as it did. -/
def donorPlaysSpec : ChangeSpec := { name := "donorPlays", fn := fun _ => fun
  | [d1, d2, d3, d4, d5, d6, d7, d8] => { results := [.lit (.bool true)], args := [d1, d2, d3, d4, d5, d6, d7, d8] }
  | _ => none }
def donorPlaysRow : OpenClaim := { program := "ytolmkjepieoloaa", sum := "3c911fd3fd9f1eb6e1fd645cc81cd2a78a7099e91601c0853aedb226045f23d5", func := "leat/leatlaw14.DonorPlays", spec := "donorPlays", unfollowed := true, recurses := true, apart := false }
def DonorPlaysSaid : Prop := donorPlaysRow.holds Try.pinned (OpenSpec.ofChange donorPlaysSpec)

/-- ITS FALSE NEIGHBOUR: 'it returns false'. Refute it at one input. -/
def donorPlaysWrong : ChangeSpec := { name := "donorPlays", fn := fun _ => fun
  | [d1, d2, d3, d4, d5, d6, d7, d8] => { results := [.lit (.bool false)], args := [d1, d2, d3, d4, d5, d6, d7, d8] }
  | _ => none }
def DonorPlaysWrongFalsely : Prop := donorPlaysRow.holds Try.pinned (OpenSpec.ofChange donorPlaysWrong)

/-- 'leatlaw14.DonorAll': WHATEVER THE INPUT: true; the input reads as it did. -/
def donorAllSpec : ChangeSpec := { name := "donorAll", fn := fun _ => fun
  | [d1, d2] => { results := [.lit (.bool true)], args := [d1, d2] }
  | _ => none }
def donorAllRow : OpenClaim := { program := "ytolmkjepieoloaa", sum := "3c911fd3fd9f1eb6e1fd645cc81cd2a78a7099e91601c0853aedb226045f23d5", func := "leat/leatlaw14.DonorAll", spec := "donorAll", unfollowed := true, recurses := true, apart := false }
def DonorAllSaid : Prop := donorAllRow.holds Try.pinned (OpenSpec.ofChange donorAllSpec)

/-- ITS FALSE NEIGHBOUR: 'it returns false'. Refute it at one input. -/
def donorAllWrong : ChangeSpec := { name := "donorAll", fn := fun _ => fun
  | [d1, d2] => { results := [.lit (.bool false)], args := [d1, d2] }
  | _ => none }
def DonorAllWrongFalsely : Prop := donorAllRow.holds Try.pinned (OpenSpec.ofChange donorAllWrong)

/-- 'leatlaw19.MemberPlays': WHATEVER THE INPUT: true; the input reads as it did. -/
def memberPlaysSpec : ChangeSpec := { name := "memberPlays", fn := fun _ => fun
  | [d1, d2, d3, d4, d5, d6] => { results := [.lit (.bool true)], args := [d1, d2, d3, d4, d5, d6] }
  | _ => none }
def memberPlaysRow : OpenClaim := { program := "ytolmkjepieoloaa", sum := "3c911fd3fd9f1eb6e1fd645cc81cd2a78a7099e91601c0853aedb226045f23d5", func := "leat/leatlaw19.MemberPlays", spec := "memberPlays", unfollowed := true, recurses := true, apart := false }
def MemberPlaysSaid : Prop := memberPlaysRow.holds Try.pinned (OpenSpec.ofChange memberPlaysSpec)

/-- ITS FALSE NEIGHBOUR: 'it returns false'. Refute it at one input. -/
def memberPlaysWrong : ChangeSpec := { name := "memberPlays", fn := fun _ => fun
  | [d1, d2, d3, d4, d5, d6] => { results := [.lit (.bool false)], args := [d1, d2, d3, d4, d5, d6] }
  | _ => none }
def MemberPlaysWrongFalsely : Prop := memberPlaysRow.holds Try.pinned (OpenSpec.ofChange memberPlaysWrong)

/-- 'leatlaw25.QuerySums': WHATEVER THE INPUT: true; the input reads as it did. -/
def querySumsSpec : ChangeSpec := { name := "querySums", fn := fun _ => fun
  | [d1, d2, d3] => { results := [.lit (.bool true)], args := [d1, d2, d3] }
  | _ => none }
def querySumsRow : OpenClaim := { program := "ytolmkjepieoloaa", sum := "3c911fd3fd9f1eb6e1fd645cc81cd2a78a7099e91601c0853aedb226045f23d5", func := "leat/leatlaw25.QuerySums", spec := "querySums", unfollowed := true, recurses := true, apart := false }
def QuerySumsSaid : Prop := querySumsRow.holds Try.pinned (OpenSpec.ofChange querySumsSpec)

/-- ITS FALSE NEIGHBOUR: 'it returns false'. Refute it at one input. -/
def querySumsWrong : ChangeSpec := { name := "querySums", fn := fun _ => fun
  | [d1, d2, d3] => { results := [.lit (.bool false)], args := [d1, d2, d3] }
  | _ => none }
def QuerySumsWrongFalsely : Prop := querySumsRow.holds Try.pinned (OpenSpec.ofChange querySumsWrong)

/-- 'leatlaw07.RightsBack': WHATEVER THE INPUT: true; the input reads as it did. -/
def rightsBackSpec : ChangeSpec := { name := "rightsBack", fn := fun _ => fun
  | [d1, d2, d3, d4, d5] => { results := [.lit (.bool true)], args := [d1, d2, d3, d4, d5] }
  | _ => none }
def rightsBackRow : OpenClaim := { program := "ytolmkjepieoloaa", sum := "3c911fd3fd9f1eb6e1fd645cc81cd2a78a7099e91601c0853aedb226045f23d5", func := "leat/leatlaw07.RightsBack", spec := "rightsBack", unfollowed := true, recurses := true, apart := false }
def RightsBackSaid : Prop := rightsBackRow.holds Try.pinned (OpenSpec.ofChange rightsBackSpec)

/-- ITS FALSE NEIGHBOUR: 'it returns false'. Refute it at one input. -/
def rightsBackWrong : ChangeSpec := { name := "rightsBack", fn := fun _ => fun
  | [d1, d2, d3, d4, d5] => { results := [.lit (.bool false)], args := [d1, d2, d3, d4, d5] }
  | _ => none }
def RightsBackWrongFalsely : Prop := rightsBackRow.holds Try.pinned (OpenSpec.ofChange rightsBackWrong)

/-- 'leatlaw07.RightsTakes': WHATEVER THE INPUT: true; the input reads as it did. -/
def rightsTakesSpec : ChangeSpec := { name := "rightsTakes", fn := fun _ => fun
  | [d1, d2, d3] => { results := [.lit (.bool true)], args := [d1, d2, d3] }
  | _ => none }
def rightsTakesRow : OpenClaim := { program := "ytolmkjepieoloaa", sum := "3c911fd3fd9f1eb6e1fd645cc81cd2a78a7099e91601c0853aedb226045f23d5", func := "leat/leatlaw07.RightsTakes", spec := "rightsTakes", unfollowed := true, recurses := true, apart := false }
def RightsTakesSaid : Prop := rightsTakesRow.holds Try.pinned (OpenSpec.ofChange rightsTakesSpec)

/-- ITS FALSE NEIGHBOUR: 'it returns false'. Refute it at one input. -/
def rightsTakesWrong : ChangeSpec := { name := "rightsTakes", fn := fun _ => fun
  | [d1, d2, d3] => { results := [.lit (.bool false)], args := [d1, d2, d3] }
  | _ => none }
def RightsTakesWrongFalsely : Prop := rightsTakesRow.holds Try.pinned (OpenSpec.ofChange rightsTakesWrong)

/-- 'leatlaw07.RightsPlays': WHATEVER THE INPUT: true; the input reads as it did. -/
def rightsPlaysSpec : ChangeSpec := { name := "rightsPlays", fn := fun _ => fun
  | [d1, d2, d3, d4] => { results := [.lit (.bool true)], args := [d1, d2, d3, d4] }
  | _ => none }
def rightsPlaysRow : OpenClaim := { program := "ytolmkjepieoloaa", sum := "3c911fd3fd9f1eb6e1fd645cc81cd2a78a7099e91601c0853aedb226045f23d5", func := "leat/leatlaw07.RightsPlays", spec := "rightsPlays", unfollowed := true, recurses := true, apart := false }
def RightsPlaysSaid : Prop := rightsPlaysRow.holds Try.pinned (OpenSpec.ofChange rightsPlaysSpec)

/-- ITS FALSE NEIGHBOUR: 'it returns false'. Refute it at one input. -/
def rightsPlaysWrong : ChangeSpec := { name := "rightsPlays", fn := fun _ => fun
  | [d1, d2, d3, d4] => { results := [.lit (.bool false)], args := [d1, d2, d3, d4] }
  | _ => none }
def RightsPlaysWrongFalsely : Prop := rightsPlaysRow.holds Try.pinned (OpenSpec.ofChange rightsPlaysWrong)

/-- 'leatlaw07.RightsBound': WHATEVER THE INPUT: true; the input reads as it did. -/
def rightsBoundSpec : ChangeSpec := { name := "rightsBound", fn := fun _ => fun
  | [d] => { results := [.lit (.bool true)], args := [d] }
  | _ => none }
def rightsBoundRow : OpenClaim := { program := "ytolmkjepieoloaa", sum := "3c911fd3fd9f1eb6e1fd645cc81cd2a78a7099e91601c0853aedb226045f23d5", func := "leat/leatlaw07.RightsBound", spec := "rightsBound", unfollowed := true, recurses := true, apart := false }
def RightsBoundSaid : Prop := rightsBoundRow.holds Try.pinned (OpenSpec.ofChange rightsBoundSpec)

/-- ITS FALSE NEIGHBOUR: 'it returns false'. Refute it at one input. -/
def rightsBoundWrong : ChangeSpec := { name := "rightsBound", fn := fun _ => fun
  | [d] => { results := [.lit (.bool false)], args := [d] }
  | _ => none }
def RightsBoundWrongFalsely : Prop := rightsBoundRow.holds Try.pinned (OpenSpec.ofChange rightsBoundWrong)

/-- 'leatlaw07.RightsJoins': WHATEVER THE INPUT: true; the input reads as it did. -/
def rightsJoinsSpec : ChangeSpec := { name := "rightsJoins", fn := fun _ => fun
  | [d1, d2, d3, d4] => { results := [.lit (.bool true)], args := [d1, d2, d3, d4] }
  | _ => none }
def rightsJoinsRow : OpenClaim := { program := "ytolmkjepieoloaa", sum := "3c911fd3fd9f1eb6e1fd645cc81cd2a78a7099e91601c0853aedb226045f23d5", func := "leat/leatlaw07.RightsJoins", spec := "rightsJoins", unfollowed := true, recurses := true, apart := false }
def RightsJoinsSaid : Prop := rightsJoinsRow.holds Try.pinned (OpenSpec.ofChange rightsJoinsSpec)

/-- ITS FALSE NEIGHBOUR: 'it returns false'. Refute it at one input. -/
def rightsJoinsWrong : ChangeSpec := { name := "rightsJoins", fn := fun _ => fun
  | [d1, d2, d3, d4] => { results := [.lit (.bool false)], args := [d1, d2, d3, d4] }
  | _ => none }
def RightsJoinsWrongFalsely : Prop := rightsJoinsRow.holds Try.pinned (OpenSpec.ofChange rightsJoinsWrong)

/-- 'leatlaw33.RoomWorks': WHATEVER THE INPUT: true; the input reads as it did. -/
def roomWorksSpec : ChangeSpec := { name := "roomWorks", fn := fun _ => fun
  | [d1, d2, d3, d4, d5] => { results := [.lit (.bool true)], args := [d1, d2, d3, d4, d5] }
  | _ => none }
def roomWorksRow : OpenClaim := { program := "ytolmkjepieoloaa", sum := "3c911fd3fd9f1eb6e1fd645cc81cd2a78a7099e91601c0853aedb226045f23d5", func := "leat/leatlaw33.RoomWorks", spec := "roomWorks", unfollowed := true, recurses := true, apart := false }
def RoomWorksSaid : Prop := roomWorksRow.holds Try.pinned (OpenSpec.ofChange roomWorksSpec)

/-- ITS FALSE NEIGHBOUR: 'it returns false'. Refute it at one input. -/
def roomWorksWrong : ChangeSpec := { name := "roomWorks", fn := fun _ => fun
  | [d1, d2, d3, d4, d5] => { results := [.lit (.bool false)], args := [d1, d2, d3, d4, d5] }
  | _ => none }
def RoomWorksWrongFalsely : Prop := roomWorksRow.holds Try.pinned (OpenSpec.ofChange roomWorksWrong)

/-- 'leatlaw33.RoomFewest': WHATEVER THE INPUT: true; the input reads as it did. -/
def roomFewestSpec : ChangeSpec := { name := "roomFewest", fn := fun _ => fun
  | [d1, d2, d3, d4, d5] => { results := [.lit (.bool true)], args := [d1, d2, d3, d4, d5] }
  | _ => none }
def roomFewestRow : OpenClaim := { program := "ytolmkjepieoloaa", sum := "3c911fd3fd9f1eb6e1fd645cc81cd2a78a7099e91601c0853aedb226045f23d5", func := "leat/leatlaw33.RoomFewest", spec := "roomFewest", unfollowed := true, recurses := true, apart := false }
def RoomFewestSaid : Prop := roomFewestRow.holds Try.pinned (OpenSpec.ofChange roomFewestSpec)

/-- ITS FALSE NEIGHBOUR: 'it returns false'. Refute it at one input. -/
def roomFewestWrong : ChangeSpec := { name := "roomFewest", fn := fun _ => fun
  | [d1, d2, d3, d4, d5] => { results := [.lit (.bool false)], args := [d1, d2, d3, d4, d5] }
  | _ => none }
def RoomFewestWrongFalsely : Prop := roomFewestRow.holds Try.pinned (OpenSpec.ofChange roomFewestWrong)

/- THE SECOND FORM. 'bulk': how many values and letters a reading holds, each counted each time it is reached (what is shared counts as often as it is met; a slice's spare places count too). A statement '..UptoSaid' is the law's where the arguments, and the package variables that the reading takes, are together of bulk at most 1048576: NARROWER than '..Said'. Prove '..Said' where nothing that the law and all that it calls make is longer than what came in: it says more and counts as full. Else prove '..UptoSaid'. A law counts once. -/
mutual
def uptoBulk {H : Type} : DataW H → Nat
  | .lit (.string bytes) => bytes.length + 1
  | .lit _ => 1
  | .nil => 1
  | .ptr d => uptoBulk d + 1
  | .slice elems spare => uptoBulkAll elems + uptoBulkAll spare + 1
  | .agg parts => uptoBulkAll parts + 1
  | .iface _ d => uptoBulk d + 1
  | .map entries => uptoBulkEntries entries + 1
  | .held _ => 1
def uptoBulkAll {H : Type} : List (DataW H) → Nat
  | [] => 0
  | d :: r => uptoBulk d + uptoBulkAll r
def uptoBulkEntries {H : Type} : List (Lit × DataW H) → Nat
  | [] => 0
  | x :: r => uptoBulkEntry x + uptoBulkEntries r
def uptoBulkEntry {H : Type} : Lit × DataW H → Nat
  | (.string bytes, d) => bytes.length + uptoBulk d + 1
  | (_, d) => uptoBulk d + 1
 end
def uptoSmall : (H : Type) → List (DataW H) → Bool := fun _ ds => decide (uptoBulkAll ds ≤ 1048576)
def OpenSpec.upto (s : _root_.Go.ChangeSpec) : _root_.Go.OpenSpec := { _root_.Go.OpenSpec.ofChange s with cond := some uptoSmall }

/-- 'leatlaw17.GossipRises', WHERE WHAT IT READS IS OF BULK AT MOST 1048576: true; the input reads as it did. -/
def gossipRisesUptoRow : OpenClaim := { program := "ytolmkjepieoloaa", sum := "3c911fd3fd9f1eb6e1fd645cc81cd2a78a7099e91601c0853aedb226045f23d5", func := "leat/leatlaw17.GossipRises", spec := "gossipRises", unfollowed := true, recurses := true, apart := false, narrowed := true }
def GossipRisesUptoSaid : Prop := gossipRisesUptoRow.holds Try.pinned (OpenSpec.upto gossipRisesSpec)

/-- 'leatlaw14.DonorPlays', WHERE WHAT IT READS IS OF BULK AT MOST 1048576: true; the input reads as it did. -/
def donorPlaysUptoRow : OpenClaim := { program := "ytolmkjepieoloaa", sum := "3c911fd3fd9f1eb6e1fd645cc81cd2a78a7099e91601c0853aedb226045f23d5", func := "leat/leatlaw14.DonorPlays", spec := "donorPlays", unfollowed := true, recurses := true, apart := false, narrowed := true }
def DonorPlaysUptoSaid : Prop := donorPlaysUptoRow.holds Try.pinned (OpenSpec.upto donorPlaysSpec)

/-- 'leatlaw14.DonorAll', WHERE WHAT IT READS IS OF BULK AT MOST 1048576: true; the input reads as it did. -/
def donorAllUptoRow : OpenClaim := { program := "ytolmkjepieoloaa", sum := "3c911fd3fd9f1eb6e1fd645cc81cd2a78a7099e91601c0853aedb226045f23d5", func := "leat/leatlaw14.DonorAll", spec := "donorAll", unfollowed := true, recurses := true, apart := false, narrowed := true }
def DonorAllUptoSaid : Prop := donorAllUptoRow.holds Try.pinned (OpenSpec.upto donorAllSpec)

/-- 'leatlaw19.MemberPlays', WHERE WHAT IT READS IS OF BULK AT MOST 1048576: true; the input reads as it did. -/
def memberPlaysUptoRow : OpenClaim := { program := "ytolmkjepieoloaa", sum := "3c911fd3fd9f1eb6e1fd645cc81cd2a78a7099e91601c0853aedb226045f23d5", func := "leat/leatlaw19.MemberPlays", spec := "memberPlays", unfollowed := true, recurses := true, apart := false, narrowed := true }
def MemberPlaysUptoSaid : Prop := memberPlaysUptoRow.holds Try.pinned (OpenSpec.upto memberPlaysSpec)

/-- 'leatlaw25.QuerySums', WHERE WHAT IT READS IS OF BULK AT MOST 1048576: true; the input reads as it did. -/
def querySumsUptoRow : OpenClaim := { program := "ytolmkjepieoloaa", sum := "3c911fd3fd9f1eb6e1fd645cc81cd2a78a7099e91601c0853aedb226045f23d5", func := "leat/leatlaw25.QuerySums", spec := "querySums", unfollowed := true, recurses := true, apart := false, narrowed := true }
def QuerySumsUptoSaid : Prop := querySumsUptoRow.holds Try.pinned (OpenSpec.upto querySumsSpec)

/-- 'leatlaw07.RightsBack', WHERE WHAT IT READS IS OF BULK AT MOST 1048576: true; the input reads as it did. -/
def rightsBackUptoRow : OpenClaim := { program := "ytolmkjepieoloaa", sum := "3c911fd3fd9f1eb6e1fd645cc81cd2a78a7099e91601c0853aedb226045f23d5", func := "leat/leatlaw07.RightsBack", spec := "rightsBack", unfollowed := true, recurses := true, apart := false, narrowed := true }
def RightsBackUptoSaid : Prop := rightsBackUptoRow.holds Try.pinned (OpenSpec.upto rightsBackSpec)

/-- 'leatlaw07.RightsTakes', WHERE WHAT IT READS IS OF BULK AT MOST 1048576: true; the input reads as it did. -/
def rightsTakesUptoRow : OpenClaim := { program := "ytolmkjepieoloaa", sum := "3c911fd3fd9f1eb6e1fd645cc81cd2a78a7099e91601c0853aedb226045f23d5", func := "leat/leatlaw07.RightsTakes", spec := "rightsTakes", unfollowed := true, recurses := true, apart := false, narrowed := true }
def RightsTakesUptoSaid : Prop := rightsTakesUptoRow.holds Try.pinned (OpenSpec.upto rightsTakesSpec)

/-- 'leatlaw07.RightsPlays', WHERE WHAT IT READS IS OF BULK AT MOST 1048576: true; the input reads as it did. -/
def rightsPlaysUptoRow : OpenClaim := { program := "ytolmkjepieoloaa", sum := "3c911fd3fd9f1eb6e1fd645cc81cd2a78a7099e91601c0853aedb226045f23d5", func := "leat/leatlaw07.RightsPlays", spec := "rightsPlays", unfollowed := true, recurses := true, apart := false, narrowed := true }
def RightsPlaysUptoSaid : Prop := rightsPlaysUptoRow.holds Try.pinned (OpenSpec.upto rightsPlaysSpec)

/-- 'leatlaw07.RightsBound', WHERE WHAT IT READS IS OF BULK AT MOST 1048576: true; the input reads as it did. -/
def rightsBoundUptoRow : OpenClaim := { program := "ytolmkjepieoloaa", sum := "3c911fd3fd9f1eb6e1fd645cc81cd2a78a7099e91601c0853aedb226045f23d5", func := "leat/leatlaw07.RightsBound", spec := "rightsBound", unfollowed := true, recurses := true, apart := false, narrowed := true }
def RightsBoundUptoSaid : Prop := rightsBoundUptoRow.holds Try.pinned (OpenSpec.upto rightsBoundSpec)

/-- 'leatlaw07.RightsJoins', WHERE WHAT IT READS IS OF BULK AT MOST 1048576: true; the input reads as it did. -/
def rightsJoinsUptoRow : OpenClaim := { program := "ytolmkjepieoloaa", sum := "3c911fd3fd9f1eb6e1fd645cc81cd2a78a7099e91601c0853aedb226045f23d5", func := "leat/leatlaw07.RightsJoins", spec := "rightsJoins", unfollowed := true, recurses := true, apart := false, narrowed := true }
def RightsJoinsUptoSaid : Prop := rightsJoinsUptoRow.holds Try.pinned (OpenSpec.upto rightsJoinsSpec)

/-- 'leatlaw33.RoomWorks', WHERE WHAT IT READS IS OF BULK AT MOST 1048576: true; the input reads as it did. -/
def roomWorksUptoRow : OpenClaim := { program := "ytolmkjepieoloaa", sum := "3c911fd3fd9f1eb6e1fd645cc81cd2a78a7099e91601c0853aedb226045f23d5", func := "leat/leatlaw33.RoomWorks", spec := "roomWorks", unfollowed := true, recurses := true, apart := false, narrowed := true }
def RoomWorksUptoSaid : Prop := roomWorksUptoRow.holds Try.pinned (OpenSpec.upto roomWorksSpec)

/-- 'leatlaw33.RoomFewest', WHERE WHAT IT READS IS OF BULK AT MOST 1048576: true; the input reads as it did. -/
def roomFewestUptoRow : OpenClaim := { program := "ytolmkjepieoloaa", sum := "3c911fd3fd9f1eb6e1fd645cc81cd2a78a7099e91601c0853aedb226045f23d5", func := "leat/leatlaw33.RoomFewest", spec := "roomFewest", unfollowed := true, recurses := true, apart := false, narrowed := true }
def RoomFewestUptoSaid : Prop := roomFewestUptoRow.holds Try.pinned (OpenSpec.upto roomFewestSpec)

end Rows
end Go.Proofs.Ytolmkjepieoloaa
