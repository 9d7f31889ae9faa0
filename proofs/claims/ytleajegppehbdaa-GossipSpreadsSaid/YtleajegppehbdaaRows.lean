/-
  No cell of these rows narrows 'for every input' (looked for: loops, veiled, ifaces, maps, wideKeys, modest, calm, conditions, laid).
  DERIVED. THE GIVEN ROWS OF THIS SEAT. 6 by the template 'for every input the law returns true; each argument reads behind the call as it read before'; 0 by the template 'total and deterministic' (their statements: YtleajegppehbdaaTotals.lean).
  GIVEN WITH THE SEED: the statements are not yours to turn. If you find one false, say at which input.
  Laid BY PROGRAM, IN A SANDBOX (cutbox-rows.mjs): the forced cells as the released guide's own fill.sh prints them over the translation ed1abf56c5433a90… (all of the seat's roots in one cut). By AI agents, Wed Nov 11 2026. No macro, syntax, notation, axiom, sorry.
-/
import Derived.Test.YtleajegppehbdaaChecked
import GoSem.Claim
import GoSem.ClaimJoined
import GoSem.ClaimMapViews
import Derived.JoinedTies
import Derived.KernelRfl
namespace Go.Proofs.Ytleajegppehbdaa
/- THE CELL 'sum', in the pinned program and in every row, IS THE sha256 OF THE DUMP (.gsa) THAT YtleajegppehbdaaProg.lean LOADS. Nothing in Lean hashes anything: it is a label: what it is worth is what the hold of that sum in a sandbox is worth. -/
noncomputable def Try.pinned : Pinned := { name := "ytleajegppehbdaa", sum := "ed1abf56c5433a90efe0a9f43a07d8ab250112df0b6647efa6a0c6970976c212", checked := Try.checked }
namespace Rows
def none {H : Type} : Left H := { results := [], args := [] }

/-- 'leatlaw17.GossipPlays': WHATEVER THE INPUT: true; the input reads as it did. -/
def gossipPlaysSpec : ChangeSpec := { name := "gossipPlays", fn := fun _ => fun
  | [d1, d2, d3, d4, d5, d6] => { results := [.lit (.bool true)], args := [d1, d2, d3, d4, d5, d6] }
  | _ => none }
def gossipPlaysRow : OpenClaim := { program := "ytleajegppehbdaa", sum := "ed1abf56c5433a90efe0a9f43a07d8ab250112df0b6647efa6a0c6970976c212", func := "leat/leatlaw17.GossipPlays", spec := "gossipPlays", unfollowed := true, recurses := true, apart := false }
def GossipPlaysSaid : Prop := gossipPlaysRow.holds Try.pinned (OpenSpec.ofChange gossipPlaysSpec)

/-- ITS FALSE NEIGHBOUR: 'it returns false'. Refute it at one input. -/
def gossipPlaysWrong : ChangeSpec := { name := "gossipPlays", fn := fun _ => fun
  | [d1, d2, d3, d4, d5, d6] => { results := [.lit (.bool false)], args := [d1, d2, d3, d4, d5, d6] }
  | _ => none }
def GossipPlaysWrongFalsely : Prop := gossipPlaysRow.holds Try.pinned (OpenSpec.ofChange gossipPlaysWrong)

/-- 'leatlaw16.OriginTells': WHATEVER THE INPUT: true; the input reads as it did. -/
def originTellsSpec : ChangeSpec := { name := "originTells", fn := fun _ => fun
  | [d1, d2, d3, d4, d5] => { results := [.lit (.bool true)], args := [d1, d2, d3, d4, d5] }
  | _ => none }
def originTellsRow : OpenClaim := { program := "ytleajegppehbdaa", sum := "ed1abf56c5433a90efe0a9f43a07d8ab250112df0b6647efa6a0c6970976c212", func := "leat/leatlaw16.OriginTells", spec := "originTells", unfollowed := true, recurses := true, apart := false }
def OriginTellsSaid : Prop := originTellsRow.holds Try.pinned (OpenSpec.ofChange originTellsSpec)

/-- ITS FALSE NEIGHBOUR: 'it returns false'. Refute it at one input. -/
def originTellsWrong : ChangeSpec := { name := "originTells", fn := fun _ => fun
  | [d1, d2, d3, d4, d5] => { results := [.lit (.bool false)], args := [d1, d2, d3, d4, d5] }
  | _ => none }
def OriginTellsWrongFalsely : Prop := originTellsRow.holds Try.pinned (OpenSpec.ofChange originTellsWrong)

/-- 'leatlaw16.OriginPrunes': WHATEVER THE INPUT: true; the input reads as it did. -/
def originPrunesSpec : ChangeSpec := { name := "originPrunes", fn := fun _ => fun
  | [d1, d2, d3, d4] => { results := [.lit (.bool true)], args := [d1, d2, d3, d4] }
  | _ => none }
def originPrunesRow : OpenClaim := { program := "ytleajegppehbdaa", sum := "ed1abf56c5433a90efe0a9f43a07d8ab250112df0b6647efa6a0c6970976c212", func := "leat/leatlaw16.OriginPrunes", spec := "originPrunes", unfollowed := true, recurses := true, apart := false }
def OriginPrunesSaid : Prop := originPrunesRow.holds Try.pinned (OpenSpec.ofChange originPrunesSpec)

/-- ITS FALSE NEIGHBOUR: 'it returns false'. Refute it at one input. -/
def originPrunesWrong : ChangeSpec := { name := "originPrunes", fn := fun _ => fun
  | [d1, d2, d3, d4] => { results := [.lit (.bool false)], args := [d1, d2, d3, d4] }
  | _ => none }
def OriginPrunesWrongFalsely : Prop := originPrunesRow.holds Try.pinned (OpenSpec.ofChange originPrunesWrong)

/-- 'leatlaw16.OriginPlays': WHATEVER THE INPUT: true; the input reads as it did. -/
def originPlaysSpec : ChangeSpec := { name := "originPlays", fn := fun _ => fun
  | [d1, d2, d3, d4, d5] => { results := [.lit (.bool true)], args := [d1, d2, d3, d4, d5] }
  | _ => none }
def originPlaysRow : OpenClaim := { program := "ytleajegppehbdaa", sum := "ed1abf56c5433a90efe0a9f43a07d8ab250112df0b6647efa6a0c6970976c212", func := "leat/leatlaw16.OriginPlays", spec := "originPlays", unfollowed := true, recurses := true, apart := false }
def OriginPlaysSaid : Prop := originPlaysRow.holds Try.pinned (OpenSpec.ofChange originPlaysSpec)

/-- ITS FALSE NEIGHBOUR: 'it returns false'. Refute it at one input. -/
def originPlaysWrong : ChangeSpec := { name := "originPlays", fn := fun _ => fun
  | [d1, d2, d3, d4, d5] => { results := [.lit (.bool false)], args := [d1, d2, d3, d4, d5] }
  | _ => none }
def OriginPlaysWrongFalsely : Prop := originPlaysRow.holds Try.pinned (OpenSpec.ofChange originPlaysWrong)

/-- 'leatlaw16.OriginNil': WHATEVER THE INPUT: true; the input reads as it did. -/
def originNilSpec : ChangeSpec := { name := "originNil", fn := fun _ => fun
  | [d1, d2, d3] => { results := [.lit (.bool true)], args := [d1, d2, d3] }
  | _ => none }
def originNilRow : OpenClaim := { program := "ytleajegppehbdaa", sum := "ed1abf56c5433a90efe0a9f43a07d8ab250112df0b6647efa6a0c6970976c212", func := "leat/leatlaw16.OriginNil", spec := "originNil", unfollowed := true, recurses := true, apart := false }
def OriginNilSaid : Prop := originNilRow.holds Try.pinned (OpenSpec.ofChange originNilSpec)

/-- ITS FALSE NEIGHBOUR: 'it returns false'. Refute it at one input. -/
def originNilWrong : ChangeSpec := { name := "originNil", fn := fun _ => fun
  | [d1, d2, d3] => { results := [.lit (.bool false)], args := [d1, d2, d3] }
  | _ => none }
def OriginNilWrongFalsely : Prop := originNilRow.holds Try.pinned (OpenSpec.ofChange originNilWrong)

/-- 'leatlaw17.GossipSpreads': WHATEVER THE INPUT: true; the input reads as it did. -/
def gossipSpreadsSpec : ChangeSpec := { name := "gossipSpreads", fn := fun _ => fun
  | [d1, d2, d3] => { results := [.lit (.bool true)], args := [d1, d2, d3] }
  | _ => none }
def gossipSpreadsRow : OpenClaim := { program := "ytleajegppehbdaa", sum := "ed1abf56c5433a90efe0a9f43a07d8ab250112df0b6647efa6a0c6970976c212", func := "leat/leatlaw17.GossipSpreads", spec := "gossipSpreads", unfollowed := true, recurses := true, apart := false }
def GossipSpreadsSaid : Prop := gossipSpreadsRow.holds Try.pinned (OpenSpec.ofChange gossipSpreadsSpec)

/-- ITS FALSE NEIGHBOUR: 'it returns false'. Refute it at one input. -/
def gossipSpreadsWrong : ChangeSpec := { name := "gossipSpreads", fn := fun _ => fun
  | [d1, d2, d3] => { results := [.lit (.bool false)], args := [d1, d2, d3] }
  | _ => none }
def GossipSpreadsWrongFalsely : Prop := gossipSpreadsRow.holds Try.pinned (OpenSpec.ofChange gossipSpreadsWrong)

/- THE SECOND FORM. 'bulk': how many values and letters a reading holds, each counted each time it is reached (what is shared counts as often as it is met; a slice's spare places count too). A statement '..UptoSaid' is the law's where the arguments, and the package variables that the reading takes, are together of bulk at most 1048576: NARROWER than '..Said'. Prove '..Said' where nothing that the law and all that it calls make is longer than what came in: it says more and counts as full. Else prove '..UptoSaid'. A law counts once. -/
mutual
def uptoBulk {H : Type} : DataW H → Nat
  | .lit (.string bytes) => bytes.length + 1
  | .lit _ => 1
  | .nil => 1
  | .ptr d => uptoBulk d + 1
  | .slice elems spare => uptoBulkAll elems + uptoBulkAll spare + 1
  | .agg parts => uptoBulkAll parts + 1
  | .iface _ d => uptoBulk d + 1
  | .map entries => uptoBulkEntries entries + 1
  | .held _ => 1
def uptoBulkAll {H : Type} : List (DataW H) → Nat
  | [] => 0
  | d :: r => uptoBulk d + uptoBulkAll r
def uptoBulkEntries {H : Type} : List (Lit × DataW H) → Nat
  | [] => 0
  | x :: r => uptoBulkEntry x + uptoBulkEntries r
def uptoBulkEntry {H : Type} : Lit × DataW H → Nat
  | (.string bytes, d) => bytes.length + uptoBulk d + 1
  | (_, d) => uptoBulk d + 1
 end
def uptoSmall : (H : Type) → List (DataW H) → Bool := fun _ ds => decide (uptoBulkAll ds ≤ 1048576)
def OpenSpec.upto (s : _root_.Go.ChangeSpec) : _root_.Go.OpenSpec := { _root_.Go.OpenSpec.ofChange s with cond := some uptoSmall }

/-- 'leatlaw17.GossipPlays', WHERE WHAT IT READS IS OF BULK AT MOST 1048576: true; the input reads as it did. -/
def gossipPlaysUptoRow : OpenClaim := { program := "ytleajegppehbdaa", sum := "ed1abf56c5433a90efe0a9f43a07d8ab250112df0b6647efa6a0c6970976c212", func := "leat/leatlaw17.GossipPlays", spec := "gossipPlays", unfollowed := true, recurses := true, apart := false, narrowed := true }
def GossipPlaysUptoSaid : Prop := gossipPlaysUptoRow.holds Try.pinned (OpenSpec.upto gossipPlaysSpec)

/-- 'leatlaw16.OriginTells', WHERE WHAT IT READS IS OF BULK AT MOST 1048576: true; the input reads as it did. -/
def originTellsUptoRow : OpenClaim := { program := "ytleajegppehbdaa", sum := "ed1abf56c5433a90efe0a9f43a07d8ab250112df0b6647efa6a0c6970976c212", func := "leat/leatlaw16.OriginTells", spec := "originTells", unfollowed := true, recurses := true, apart := false, narrowed := true }
def OriginTellsUptoSaid : Prop := originTellsUptoRow.holds Try.pinned (OpenSpec.upto originTellsSpec)

/-- 'leatlaw16.OriginPrunes', WHERE WHAT IT READS IS OF BULK AT MOST 1048576: true; the input reads as it did. -/
def originPrunesUptoRow : OpenClaim := { program := "ytleajegppehbdaa", sum := "ed1abf56c5433a90efe0a9f43a07d8ab250112df0b6647efa6a0c6970976c212", func := "leat/leatlaw16.OriginPrunes", spec := "originPrunes", unfollowed := true, recurses := true, apart := false, narrowed := true }
def OriginPrunesUptoSaid : Prop := originPrunesUptoRow.holds Try.pinned (OpenSpec.upto originPrunesSpec)

/-- 'leatlaw16.OriginPlays', WHERE WHAT IT READS IS OF BULK AT MOST 1048576: true; the input reads as it did. -/
def originPlaysUptoRow : OpenClaim := { program := "ytleajegppehbdaa", sum := "ed1abf56c5433a90efe0a9f43a07d8ab250112df0b6647efa6a0c6970976c212", func := "leat/leatlaw16.OriginPlays", spec := "originPlays", unfollowed := true, recurses := true, apart := false, narrowed := true }
def OriginPlaysUptoSaid : Prop := originPlaysUptoRow.holds Try.pinned (OpenSpec.upto originPlaysSpec)

/-- 'leatlaw16.OriginNil', WHERE WHAT IT READS IS OF BULK AT MOST 1048576: true; the input reads as it did. -/
def originNilUptoRow : OpenClaim := { program := "ytleajegppehbdaa", sum := "ed1abf56c5433a90efe0a9f43a07d8ab250112df0b6647efa6a0c6970976c212", func := "leat/leatlaw16.OriginNil", spec := "originNil", unfollowed := true, recurses := true, apart := false, narrowed := true }
def OriginNilUptoSaid : Prop := originNilUptoRow.holds Try.pinned (OpenSpec.upto originNilSpec)

/-- 'leatlaw17.GossipSpreads', WHERE WHAT IT READS IS OF BULK AT MOST 1048576: true; the input reads as it did. -/
def gossipSpreadsUptoRow : OpenClaim := { program := "ytleajegppehbdaa", sum := "ed1abf56c5433a90efe0a9f43a07d8ab250112df0b6647efa6a0c6970976c212", func := "leat/leatlaw17.GossipSpreads", spec := "gossipSpreads", unfollowed := true, recurses := true, apart := false, narrowed := true }
def GossipSpreadsUptoSaid : Prop := gossipSpreadsUptoRow.holds Try.pinned (OpenSpec.upto gossipSpreadsSpec)

end Rows
end Go.Proofs.Ytleajegppehbdaa
