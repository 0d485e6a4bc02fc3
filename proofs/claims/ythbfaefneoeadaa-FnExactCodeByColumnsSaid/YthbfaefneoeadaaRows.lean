/-
  No cell of these rows narrows 'for every input' (looked for: loops, veiled, ifaces, maps, wideKeys, modest, calm, conditions, laid).
  DERIVED. THE GIVEN ROWS OF THIS SEAT. 5 by the template 'for every input the law returns true; each argument reads behind the call as it read before'; 0 by the template 'total and deterministic' (their statements: YthbfaefneoeadaaTotals.lean).
  GIVEN WITH THE SEED: the statements are not yours to turn. If you find one false, say at which input.
  Laid BY PROGRAM, IN A SANDBOX (cutbox-rows.mjs): the forced cells as the released guide's own fill.sh prints them over the translation 5013bad52dfc31cc… (all of the seat's roots in one cut). By AI agents, Wed Nov 11 2026. No macro, syntax, notation, axiom, sorry.
-/
import Derived.Test.YthbfaefneoeadaaChecked
import GoSem.Claim
import GoSem.ClaimJoined
import GoSem.ClaimMapViews
import Derived.JoinedTies
import Derived.KernelRfl
namespace Go.Proofs.Ythbfaefneoeadaa
/- THE CELL 'sum', in the pinned program and in every row, IS THE sha256 OF THE DUMP (.gsa) THAT YthbfaefneoeadaaProg.lean LOADS. Nothing in Lean hashes anything: it is a label: what it is worth is what the hold of that sum in a sandbox is worth. -/
noncomputable def Try.pinned : Pinned := { name := "ythbfaefneoeadaa", sum := "5013bad52dfc31cc139e8dd248fb0c99edcdbce05d13ba4bc37a570ad0c618e7", checked := Try.checked }
namespace Rows
def none {H : Type} : Left H := { results := [], args := [] }

/-- 'laws.FnExactIsChain': WHATEVER THE INPUT: true; the input reads as it did. -/
def fnExactIsChainSpec : ChangeSpec := { name := "fnExactIsChain", fn := fun _ => fun
  | [d1, d2] => { results := [.lit (.bool true)], args := [d1, d2] }
  | _ => none }
def fnExactIsChainRow : OpenClaim := { program := "ythbfaefneoeadaa", sum := "5013bad52dfc31cc139e8dd248fb0c99edcdbce05d13ba4bc37a570ad0c618e7", func := "loop.example/g01411/laws.FnExactIsChain", spec := "fnExactIsChain", unfollowed := true, recurses := true, apart := false }
def FnExactIsChainSaid : Prop := fnExactIsChainRow.holds Try.pinned (OpenSpec.ofChange fnExactIsChainSpec)

/-- ITS FALSE NEIGHBOUR: 'it returns false'. Refute it at one input. -/
def fnExactIsChainWrong : ChangeSpec := { name := "fnExactIsChain", fn := fun _ => fun
  | [d1, d2] => { results := [.lit (.bool false)], args := [d1, d2] }
  | _ => none }
def FnExactIsChainWrongFalsely : Prop := fnExactIsChainRow.holds Try.pinned (OpenSpec.ofChange fnExactIsChainWrong)

/-- 'laws.FnExactJoinOverPlace': WHATEVER THE INPUT: true; the input reads as it did. -/
def fnExactJoinOverPlaceSpec : ChangeSpec := { name := "fnExactJoinOverPlace", fn := fun _ => fun
  | [d1, d2, d3, d4] => { results := [.lit (.bool true)], args := [d1, d2, d3, d4] }
  | _ => none }
def fnExactJoinOverPlaceRow : OpenClaim := { program := "ythbfaefneoeadaa", sum := "5013bad52dfc31cc139e8dd248fb0c99edcdbce05d13ba4bc37a570ad0c618e7", func := "loop.example/g01411/laws.FnExactJoinOverPlace", spec := "fnExactJoinOverPlace", apart := false }
def FnExactJoinOverPlaceSaid : Prop := fnExactJoinOverPlaceRow.holds Try.pinned (OpenSpec.ofChange fnExactJoinOverPlaceSpec)

/-- ITS FALSE NEIGHBOUR: 'it returns false'. Refute it at one input. -/
def fnExactJoinOverPlaceWrong : ChangeSpec := { name := "fnExactJoinOverPlace", fn := fun _ => fun
  | [d1, d2, d3, d4] => { results := [.lit (.bool false)], args := [d1, d2, d3, d4] }
  | _ => none }
def FnExactJoinOverPlaceWrongFalsely : Prop := fnExactJoinOverPlaceRow.holds Try.pinned (OpenSpec.ofChange fnExactJoinOverPlaceWrong)

/-- 'laws.FnExactGreedyRows': WHATEVER THE INPUT: true; the input reads as it did. -/
def fnExactGreedyRowsSpec : ChangeSpec := { name := "fnExactGreedyRows", fn := fun _ => fun
  | [d1, d2] => { results := [.lit (.bool true)], args := [d1, d2] }
  | _ => none }
def fnExactGreedyRowsRow : OpenClaim := { program := "ythbfaefneoeadaa", sum := "5013bad52dfc31cc139e8dd248fb0c99edcdbce05d13ba4bc37a570ad0c618e7", func := "loop.example/g01411/laws.FnExactGreedyRows", spec := "fnExactGreedyRows", unfollowed := true, recurses := true, apart := false }
def FnExactGreedyRowsSaid : Prop := fnExactGreedyRowsRow.holds Try.pinned (OpenSpec.ofChange fnExactGreedyRowsSpec)

/-- ITS FALSE NEIGHBOUR: 'it returns false'. Refute it at one input. -/
def fnExactGreedyRowsWrong : ChangeSpec := { name := "fnExactGreedyRows", fn := fun _ => fun
  | [d1, d2] => { results := [.lit (.bool false)], args := [d1, d2] }
  | _ => none }
def FnExactGreedyRowsWrongFalsely : Prop := fnExactGreedyRowsRow.holds Try.pinned (OpenSpec.ofChange fnExactGreedyRowsWrong)

/-- 'laws.FnExactMissingChoices': WHATEVER THE INPUT: true; the input reads as it did. -/
def fnExactMissingChoicesSpec : ChangeSpec := { name := "fnExactMissingChoices", fn := fun _ => fun
  | [d1, d2, d3] => { results := [.lit (.bool true)], args := [d1, d2, d3] }
  | _ => none }
def fnExactMissingChoicesRow : OpenClaim := { program := "ythbfaefneoeadaa", sum := "5013bad52dfc31cc139e8dd248fb0c99edcdbce05d13ba4bc37a570ad0c618e7", func := "loop.example/g01411/laws.FnExactMissingChoices", spec := "fnExactMissingChoices", unfollowed := true, recurses := true, apart := false }
def FnExactMissingChoicesSaid : Prop := fnExactMissingChoicesRow.holds Try.pinned (OpenSpec.ofChange fnExactMissingChoicesSpec)

/-- ITS FALSE NEIGHBOUR: 'it returns false'. Refute it at one input. -/
def fnExactMissingChoicesWrong : ChangeSpec := { name := "fnExactMissingChoices", fn := fun _ => fun
  | [d1, d2, d3] => { results := [.lit (.bool false)], args := [d1, d2, d3] }
  | _ => none }
def FnExactMissingChoicesWrongFalsely : Prop := fnExactMissingChoicesRow.holds Try.pinned (OpenSpec.ofChange fnExactMissingChoicesWrong)

/-- 'laws.FnExactCodeByColumns': WHATEVER THE INPUT: true; the input reads as it did. -/
def fnExactCodeByColumnsSpec : ChangeSpec := { name := "fnExactCodeByColumns", fn := fun _ => fun
  | [d1, d2, d3] => { results := [.lit (.bool true)], args := [d1, d2, d3] }
  | _ => none }
def fnExactCodeByColumnsRow : OpenClaim := { program := "ythbfaefneoeadaa", sum := "5013bad52dfc31cc139e8dd248fb0c99edcdbce05d13ba4bc37a570ad0c618e7", func := "loop.example/g01411/laws.FnExactCodeByColumns", spec := "fnExactCodeByColumns", unfollowed := true, recurses := true, apart := false }
def FnExactCodeByColumnsSaid : Prop := fnExactCodeByColumnsRow.holds Try.pinned (OpenSpec.ofChange fnExactCodeByColumnsSpec)

/-- ITS FALSE NEIGHBOUR: 'it returns false'. Refute it at one input. -/
def fnExactCodeByColumnsWrong : ChangeSpec := { name := "fnExactCodeByColumns", fn := fun _ => fun
  | [d1, d2, d3] => { results := [.lit (.bool false)], args := [d1, d2, d3] }
  | _ => none }
def FnExactCodeByColumnsWrongFalsely : Prop := fnExactCodeByColumnsRow.holds Try.pinned (OpenSpec.ofChange fnExactCodeByColumnsWrong)

/- THE SECOND FORM. 'bulk': how many values and letters a reading holds, each counted each time it is reached (what is shared counts as often as it is met; a slice's spare places count too). A statement '..UptoSaid' is the law's where the arguments, and the package variables that the reading takes, are together of bulk at most 1048576: NARROWER than '..Said'. Prove '..Said' where nothing that the law and all that it calls make is longer than what came in: it says more and counts as full. Else prove '..UptoSaid'. A law counts once. -/
mutual
def uptoBulk {H : Type} : DataW H → Nat
  | .lit (.string bytes) => bytes.length + 1
  | .lit _ => 1
  | .nil => 1
  | .ptr d => uptoBulk d + 1
  | .slice elems spare => uptoBulkAll elems + uptoBulkAll spare + 1
  | .agg parts => uptoBulkAll parts + 1
  | .iface _ d => uptoBulk d + 1
  | .map entries => uptoBulkEntries entries + 1
  | .held _ => 1
def uptoBulkAll {H : Type} : List (DataW H) → Nat
  | [] => 0
  | d :: r => uptoBulk d + uptoBulkAll r
def uptoBulkEntries {H : Type} : List (Lit × DataW H) → Nat
  | [] => 0
  | x :: r => uptoBulkEntry x + uptoBulkEntries r
def uptoBulkEntry {H : Type} : Lit × DataW H → Nat
  | (.string bytes, d) => bytes.length + uptoBulk d + 1
  | (_, d) => uptoBulk d + 1
 end
def uptoSmall : (H : Type) → List (DataW H) → Bool := fun _ ds => decide (uptoBulkAll ds ≤ 1048576)
def OpenSpec.upto (s : _root_.Go.ChangeSpec) : _root_.Go.OpenSpec := { _root_.Go.OpenSpec.ofChange s with cond := some uptoSmall }

/-- 'laws.FnExactIsChain', WHERE WHAT IT READS IS OF BULK AT MOST 1048576: true; the input reads as it did. -/
def fnExactIsChainUptoRow : OpenClaim := { program := "ythbfaefneoeadaa", sum := "5013bad52dfc31cc139e8dd248fb0c99edcdbce05d13ba4bc37a570ad0c618e7", func := "loop.example/g01411/laws.FnExactIsChain", spec := "fnExactIsChain", unfollowed := true, recurses := true, apart := false, narrowed := true }
def FnExactIsChainUptoSaid : Prop := fnExactIsChainUptoRow.holds Try.pinned (OpenSpec.upto fnExactIsChainSpec)

/-- 'laws.FnExactJoinOverPlace', WHERE WHAT IT READS IS OF BULK AT MOST 1048576: true; the input reads as it did. -/
def fnExactJoinOverPlaceUptoRow : OpenClaim := { program := "ythbfaefneoeadaa", sum := "5013bad52dfc31cc139e8dd248fb0c99edcdbce05d13ba4bc37a570ad0c618e7", func := "loop.example/g01411/laws.FnExactJoinOverPlace", spec := "fnExactJoinOverPlace", apart := false, narrowed := true }
def FnExactJoinOverPlaceUptoSaid : Prop := fnExactJoinOverPlaceUptoRow.holds Try.pinned (OpenSpec.upto fnExactJoinOverPlaceSpec)

/-- 'laws.FnExactGreedyRows', WHERE WHAT IT READS IS OF BULK AT MOST 1048576: true; the input reads as it did. -/
def fnExactGreedyRowsUptoRow : OpenClaim := { program := "ythbfaefneoeadaa", sum := "5013bad52dfc31cc139e8dd248fb0c99edcdbce05d13ba4bc37a570ad0c618e7", func := "loop.example/g01411/laws.FnExactGreedyRows", spec := "fnExactGreedyRows", unfollowed := true, recurses := true, apart := false, narrowed := true }
def FnExactGreedyRowsUptoSaid : Prop := fnExactGreedyRowsUptoRow.holds Try.pinned (OpenSpec.upto fnExactGreedyRowsSpec)

/-- 'laws.FnExactMissingChoices', WHERE WHAT IT READS IS OF BULK AT MOST 1048576: true; the input reads as it did. -/
def fnExactMissingChoicesUptoRow : OpenClaim := { program := "ythbfaefneoeadaa", sum := "5013bad52dfc31cc139e8dd248fb0c99edcdbce05d13ba4bc37a570ad0c618e7", func := "loop.example/g01411/laws.FnExactMissingChoices", spec := "fnExactMissingChoices", unfollowed := true, recurses := true, apart := false, narrowed := true }
def FnExactMissingChoicesUptoSaid : Prop := fnExactMissingChoicesUptoRow.holds Try.pinned (OpenSpec.upto fnExactMissingChoicesSpec)

/-- 'laws.FnExactCodeByColumns', WHERE WHAT IT READS IS OF BULK AT MOST 1048576: true; the input reads as it did. -/
def fnExactCodeByColumnsUptoRow : OpenClaim := { program := "ythbfaefneoeadaa", sum := "5013bad52dfc31cc139e8dd248fb0c99edcdbce05d13ba4bc37a570ad0c618e7", func := "loop.example/g01411/laws.FnExactCodeByColumns", spec := "fnExactCodeByColumns", unfollowed := true, recurses := true, apart := false, narrowed := true }
def FnExactCodeByColumnsUptoSaid : Prop := fnExactCodeByColumnsUptoRow.holds Try.pinned (OpenSpec.upto fnExactCodeByColumnsSpec)

end Rows
end Go.Proofs.Ythbfaefneoeadaa
