/-
  No cell of these rows narrows 'for every input' (looked for: loops, veiled, ifaces, maps, wideKeys, modest, calm, conditions, laid).
  DERIVED. THE GIVEN ROWS OF THIS SEAT. 4 by the template 'for every input the law returns true; each argument reads behind the call as it read before'; 0 by the template 'total and deterministic' (their statements: YtjnkejgjgknllaaTotals.lean).
  GIVEN WITH THE SEED: the statements are not yours to turn. If you find one false, say at which input.
  Laid BY PROGRAM, IN A SANDBOX (cutbox-rows.mjs): the forced cells as the released guide's own fill.sh prints them over the translation ccac240b3b3f2fbd… (all of the seat's roots in one cut). By AI agents, Wed Nov 11 2026. No macro, syntax, notation, axiom, sorry.
-/
import Derived.Test.YtjnkejgjgknllaaChecked
import GoSem.Claim
import GoSem.ClaimJoined
import GoSem.ClaimMapViews
import Derived.JoinedTies
import Derived.KernelRfl
namespace Go.Proofs.Ytjnkejgjgknllaa
/- THE CELL 'sum', in the pinned program and in every row, IS THE sha256 OF THE DUMP (.gsa) THAT YtjnkejgjgknllaaProg.lean LOADS. Nothing in Lean hashes anything: it is a label: what it is worth is what the hold of that sum in a sandbox is worth. -/
noncomputable def Try.pinned : Pinned := { name := "ytjnkejgjgknllaa", sum := "ccac240b3b3f2fbd66ea9099e4551f351209f2ec0ef024e0ca7b08516af717a5", checked := Try.checked }
namespace Rows
def none {H : Type} : Left H := { results := [], args := [] }

/-- 'leatlaw18.DemandTimes': WHATEVER THE INPUT: true; the input reads as it did. -/
def demandTimesSpec : ChangeSpec := { name := "demandTimes", fn := fun _ => fun
  | [d1, d2, d3] => { results := [.lit (.bool true)], args := [d1, d2, d3] }
  | _ => none }
def demandTimesRow : OpenClaim := { program := "ytjnkejgjgknllaa", sum := "ccac240b3b3f2fbd66ea9099e4551f351209f2ec0ef024e0ca7b08516af717a5", func := "leat/leatlaw18.DemandTimes", spec := "demandTimes", unfollowed := true, recurses := true, apart := false }
def DemandTimesSaid : Prop := demandTimesRow.holds Try.pinned (OpenSpec.ofChange demandTimesSpec)

/-- ITS FALSE NEIGHBOUR: 'it returns false'. Refute it at one input. -/
def demandTimesWrong : ChangeSpec := { name := "demandTimes", fn := fun _ => fun
  | [d1, d2, d3] => { results := [.lit (.bool false)], args := [d1, d2, d3] }
  | _ => none }
def DemandTimesWrongFalsely : Prop := demandTimesRow.holds Try.pinned (OpenSpec.ofChange demandTimesWrong)

/-- 'leatlaw18.DemandPlays': WHATEVER THE INPUT: true; the input reads as it did. -/
def demandPlaysSpec : ChangeSpec := { name := "demandPlays", fn := fun _ => fun
  | [d] => { results := [.lit (.bool true)], args := [d] }
  | _ => none }
def demandPlaysRow : OpenClaim := { program := "ytjnkejgjgknllaa", sum := "ccac240b3b3f2fbd66ea9099e4551f351209f2ec0ef024e0ca7b08516af717a5", func := "leat/leatlaw18.DemandPlays", spec := "demandPlays", unfollowed := true, recurses := true, apart := false }
def DemandPlaysSaid : Prop := demandPlaysRow.holds Try.pinned (OpenSpec.ofChange demandPlaysSpec)

/-- ITS FALSE NEIGHBOUR: 'it returns false'. Refute it at one input. -/
def demandPlaysWrong : ChangeSpec := { name := "demandPlays", fn := fun _ => fun
  | [d] => { results := [.lit (.bool false)], args := [d] }
  | _ => none }
def DemandPlaysWrongFalsely : Prop := demandPlaysRow.holds Try.pinned (OpenSpec.ofChange demandPlaysWrong)

/-- 'leatlaw18.DemandNil': WHATEVER THE INPUT: true; the input reads as it did. -/
def demandNilSpec : ChangeSpec := { name := "demandNil", fn := fun _ => fun
  | [d1, d2, d3] => { results := [.lit (.bool true)], args := [d1, d2, d3] }
  | _ => none }
def demandNilRow : OpenClaim := { program := "ytjnkejgjgknllaa", sum := "ccac240b3b3f2fbd66ea9099e4551f351209f2ec0ef024e0ca7b08516af717a5", func := "leat/leatlaw18.DemandNil", spec := "demandNil", unfollowed := true, recurses := true, apart := false }
def DemandNilSaid : Prop := demandNilRow.holds Try.pinned (OpenSpec.ofChange demandNilSpec)

/-- ITS FALSE NEIGHBOUR: 'it returns false'. Refute it at one input. -/
def demandNilWrong : ChangeSpec := { name := "demandNil", fn := fun _ => fun
  | [d1, d2, d3] => { results := [.lit (.bool false)], args := [d1, d2, d3] }
  | _ => none }
def DemandNilWrongFalsely : Prop := demandNilRow.holds Try.pinned (OpenSpec.ofChange demandNilWrong)

/-- 'leatlaw18.DemandMost': WHATEVER THE INPUT: true; the input reads as it did. -/
def demandMostSpec : ChangeSpec := { name := "demandMost", fn := fun _ => fun
  | [d1, d2, d3] => { results := [.lit (.bool true)], args := [d1, d2, d3] }
  | _ => none }
def demandMostRow : OpenClaim := { program := "ytjnkejgjgknllaa", sum := "ccac240b3b3f2fbd66ea9099e4551f351209f2ec0ef024e0ca7b08516af717a5", func := "leat/leatlaw18.DemandMost", spec := "demandMost", unfollowed := true, recurses := true, apart := false }
def DemandMostSaid : Prop := demandMostRow.holds Try.pinned (OpenSpec.ofChange demandMostSpec)

/-- ITS FALSE NEIGHBOUR: 'it returns false'. Refute it at one input. -/
def demandMostWrong : ChangeSpec := { name := "demandMost", fn := fun _ => fun
  | [d1, d2, d3] => { results := [.lit (.bool false)], args := [d1, d2, d3] }
  | _ => none }
def DemandMostWrongFalsely : Prop := demandMostRow.holds Try.pinned (OpenSpec.ofChange demandMostWrong)

/- THE SECOND FORM. 'bulk': how many values and letters a reading holds, each counted each time it is reached (what is shared counts as often as it is met; a slice's spare places count too). A statement '..UptoSaid' is the law's where the arguments, and the package variables that the reading takes, are together of bulk at most 1048576: NARROWER than '..Said'. Prove '..Said' where nothing that the law and all that it calls make is longer than what came in: it says more and counts as full. Else prove '..UptoSaid'. A law counts once. -/
mutual
def uptoBulk {H : Type} : DataW H → Nat
  | .lit (.string bytes) => bytes.length + 1
  | .lit _ => 1
  | .nil => 1
  | .ptr d => uptoBulk d + 1
  | .slice elems spare => uptoBulkAll elems + uptoBulkAll spare + 1
  | .agg parts => uptoBulkAll parts + 1
  | .iface _ d => uptoBulk d + 1
  | .map entries => uptoBulkEntries entries + 1
  | .held _ => 1
def uptoBulkAll {H : Type} : List (DataW H) → Nat
  | [] => 0
  | d :: r => uptoBulk d + uptoBulkAll r
def uptoBulkEntries {H : Type} : List (Lit × DataW H) → Nat
  | [] => 0
  | x :: r => uptoBulkEntry x + uptoBulkEntries r
def uptoBulkEntry {H : Type} : Lit × DataW H → Nat
  | (.string bytes, d) => bytes.length + uptoBulk d + 1
  | (_, d) => uptoBulk d + 1
 end
def uptoSmall : (H : Type) → List (DataW H) → Bool := fun _ ds => decide (uptoBulkAll ds ≤ 1048576)
def OpenSpec.upto (s : _root_.Go.ChangeSpec) : _root_.Go.OpenSpec := { _root_.Go.OpenSpec.ofChange s with cond := some uptoSmall }

/-- 'leatlaw18.DemandTimes', WHERE WHAT IT READS IS OF BULK AT MOST 1048576: true; the input reads as it did. -/
def demandTimesUptoRow : OpenClaim := { program := "ytjnkejgjgknllaa", sum := "ccac240b3b3f2fbd66ea9099e4551f351209f2ec0ef024e0ca7b08516af717a5", func := "leat/leatlaw18.DemandTimes", spec := "demandTimes", unfollowed := true, recurses := true, apart := false, narrowed := true }
def DemandTimesUptoSaid : Prop := demandTimesUptoRow.holds Try.pinned (OpenSpec.upto demandTimesSpec)

/-- 'leatlaw18.DemandPlays', WHERE WHAT IT READS IS OF BULK AT MOST 1048576: true; the input reads as it did. -/
def demandPlaysUptoRow : OpenClaim := { program := "ytjnkejgjgknllaa", sum := "ccac240b3b3f2fbd66ea9099e4551f351209f2ec0ef024e0ca7b08516af717a5", func := "leat/leatlaw18.DemandPlays", spec := "demandPlays", unfollowed := true, recurses := true, apart := false, narrowed := true }
def DemandPlaysUptoSaid : Prop := demandPlaysUptoRow.holds Try.pinned (OpenSpec.upto demandPlaysSpec)

/-- 'leatlaw18.DemandNil', WHERE WHAT IT READS IS OF BULK AT MOST 1048576: true; the input reads as it did. -/
def demandNilUptoRow : OpenClaim := { program := "ytjnkejgjgknllaa", sum := "ccac240b3b3f2fbd66ea9099e4551f351209f2ec0ef024e0ca7b08516af717a5", func := "leat/leatlaw18.DemandNil", spec := "demandNil", unfollowed := true, recurses := true, apart := false, narrowed := true }
def DemandNilUptoSaid : Prop := demandNilUptoRow.holds Try.pinned (OpenSpec.upto demandNilSpec)

/-- 'leatlaw18.DemandMost', WHERE WHAT IT READS IS OF BULK AT MOST 1048576: true; the input reads as it did. -/
def demandMostUptoRow : OpenClaim := { program := "ytjnkejgjgknllaa", sum := "ccac240b3b3f2fbd66ea9099e4551f351209f2ec0ef024e0ca7b08516af717a5", func := "leat/leatlaw18.DemandMost", spec := "demandMost", unfollowed := true, recurses := true, apart := false, narrowed := true }
def DemandMostUptoSaid : Prop := demandMostUptoRow.holds Try.pinned (OpenSpec.upto demandMostSpec)

end Rows
end Go.Proofs.Ytjnkejgjgknllaa
