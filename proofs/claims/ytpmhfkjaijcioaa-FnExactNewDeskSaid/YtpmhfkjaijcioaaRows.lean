/-
  No cell of these rows narrows 'for every input' (looked for: loops, veiled, ifaces, maps, wideKeys, modest, calm, conditions, laid).
  DERIVED. THE GIVEN ROWS OF THIS SEAT. 12 by the template 'for every input the law returns true; each argument reads behind the call as it read before'; 0 by the template 'total and deterministic' (their statements: YtpmhfkjaijcioaaTotals.lean).
  GIVEN WITH THE SEED: the statements are not yours to turn. If you find one false, say at which input.
  Laid BY PROGRAM, IN A SANDBOX (cutbox-rows.mjs): the forced cells as the released guide's own fill.sh prints them over the translation 257527b5c73dd1d8… (all of the seat's roots in one cut). By AI agents, Wed Nov 11 2026. No macro, syntax, notation, axiom, sorry.
-/
import Derived.Test.YtpmhfkjaijcioaaChecked
import GoSem.Claim
import GoSem.ClaimJoined
import GoSem.ClaimMapViews
import Derived.JoinedTies
import Derived.KernelRfl
namespace Go.Proofs.Ytpmhfkjaijcioaa
/- THE CELL 'sum', in the pinned program and in every row, IS THE sha256 OF THE DUMP (.gsa) THAT YtpmhfkjaijcioaaProg.lean LOADS. Nothing in Lean hashes anything: it is a label: what it is worth is what the hold of that sum in a sandbox is worth. -/
noncomputable def Try.pinned : Pinned := { name := "ytpmhfkjaijcioaa", sum := "257527b5c73dd1d8298d8c64185c930e2818825890d4a45be6a1e742e4d605b3", checked := Try.checked }
namespace Rows
def none {H : Type} : Left H := { results := [], args := [] }

/-- 'laws.FnExactNewDesk': WHATEVER THE INPUT: true; the input reads as it did. -/
def fnExactNewDeskSpec : ChangeSpec := { name := "fnExactNewDesk", fn := fun _ => fun
  | [] => { results := [.lit (.bool true)], args := [] }
  | _ => none }
def fnExactNewDeskRow : OpenClaim := { program := "ytpmhfkjaijcioaa", sum := "257527b5c73dd1d8298d8c64185c930e2818825890d4a45be6a1e742e4d605b3", func := "loop.example/g01411/laws.FnExactNewDesk", spec := "fnExactNewDesk", apart := false }
def FnExactNewDeskSaid : Prop := fnExactNewDeskRow.holds Try.pinned (OpenSpec.ofChange fnExactNewDeskSpec)

/-- ITS FALSE NEIGHBOUR: 'it returns false'. Refute it at one input. -/
def fnExactNewDeskWrong : ChangeSpec := { name := "fnExactNewDesk", fn := fun _ => fun
  | [] => { results := [.lit (.bool false)], args := [] }
  | _ => none }
def FnExactNewDeskWrongFalsely : Prop := fnExactNewDeskRow.holds Try.pinned (OpenSpec.ofChange fnExactNewDeskWrong)

/-- 'laws.FnExactPairNumber': WHATEVER THE INPUT: true; the input reads as it did. -/
def fnExactPairNumberSpec : ChangeSpec := { name := "fnExactPairNumber", fn := fun _ => fun
  | [d] => { results := [.lit (.bool true)], args := [d] }
  | _ => none }
def fnExactPairNumberRow : OpenClaim := { program := "ytpmhfkjaijcioaa", sum := "257527b5c73dd1d8298d8c64185c930e2818825890d4a45be6a1e742e4d605b3", func := "loop.example/g01411/laws.FnExactPairNumber", spec := "fnExactPairNumber", apart := false }
def FnExactPairNumberSaid : Prop := fnExactPairNumberRow.holds Try.pinned (OpenSpec.ofChange fnExactPairNumberSpec)

/-- ITS FALSE NEIGHBOUR: 'it returns false'. Refute it at one input. -/
def fnExactPairNumberWrong : ChangeSpec := { name := "fnExactPairNumber", fn := fun _ => fun
  | [d] => { results := [.lit (.bool false)], args := [d] }
  | _ => none }
def FnExactPairNumberWrongFalsely : Prop := fnExactPairNumberRow.holds Try.pinned (OpenSpec.ofChange fnExactPairNumberWrong)

/-- 'laws.FnExactHasChoice': WHATEVER THE INPUT: true; the input reads as it did. -/
def fnExactHasChoiceSpec : ChangeSpec := { name := "fnExactHasChoice", fn := fun _ => fun
  | [d1, d2, d3] => { results := [.lit (.bool true)], args := [d1, d2, d3] }
  | _ => none }
def fnExactHasChoiceRow : OpenClaim := { program := "ytpmhfkjaijcioaa", sum := "257527b5c73dd1d8298d8c64185c930e2818825890d4a45be6a1e742e4d605b3", func := "loop.example/g01411/laws.FnExactHasChoice", spec := "fnExactHasChoice", apart := false }
def FnExactHasChoiceSaid : Prop := fnExactHasChoiceRow.holds Try.pinned (OpenSpec.ofChange fnExactHasChoiceSpec)

/-- ITS FALSE NEIGHBOUR: 'it returns false'. Refute it at one input. -/
def fnExactHasChoiceWrong : ChangeSpec := { name := "fnExactHasChoice", fn := fun _ => fun
  | [d1, d2, d3] => { results := [.lit (.bool false)], args := [d1, d2, d3] }
  | _ => none }
def FnExactHasChoiceWrongFalsely : Prop := fnExactHasChoiceRow.holds Try.pinned (OpenSpec.ofChange fnExactHasChoiceWrong)

/-- 'laws.FnExactCountChoices': WHATEVER THE INPUT: true; the input reads as it did. -/
def fnExactCountChoicesSpec : ChangeSpec := { name := "fnExactCountChoices", fn := fun _ => fun
  | [d1, d2] => { results := [.lit (.bool true)], args := [d1, d2] }
  | _ => none }
def fnExactCountChoicesRow : OpenClaim := { program := "ytpmhfkjaijcioaa", sum := "257527b5c73dd1d8298d8c64185c930e2818825890d4a45be6a1e742e4d605b3", func := "loop.example/g01411/laws.FnExactCountChoices", spec := "fnExactCountChoices", unfollowed := true, recurses := true, apart := false }
def FnExactCountChoicesSaid : Prop := fnExactCountChoicesRow.holds Try.pinned (OpenSpec.ofChange fnExactCountChoicesSpec)

/-- ITS FALSE NEIGHBOUR: 'it returns false'. Refute it at one input. -/
def fnExactCountChoicesWrong : ChangeSpec := { name := "fnExactCountChoices", fn := fun _ => fun
  | [d1, d2] => { results := [.lit (.bool false)], args := [d1, d2] }
  | _ => none }
def FnExactCountChoicesWrongFalsely : Prop := fnExactCountChoicesRow.holds Try.pinned (OpenSpec.ofChange fnExactCountChoicesWrong)

/-- 'laws.FnExactAreLed': WHATEVER THE INPUT: true; the input reads as it did. -/
def fnExactAreLedSpec : ChangeSpec := { name := "fnExactAreLed", fn := fun _ => fun
  | [d1, d2] => { results := [.lit (.bool true)], args := [d1, d2] }
  | _ => none }
def fnExactAreLedRow : OpenClaim := { program := "ytpmhfkjaijcioaa", sum := "257527b5c73dd1d8298d8c64185c930e2818825890d4a45be6a1e742e4d605b3", func := "loop.example/g01411/laws.FnExactAreLed", spec := "fnExactAreLed", unfollowed := true, recurses := true, apart := false }
def FnExactAreLedSaid : Prop := fnExactAreLedRow.holds Try.pinned (OpenSpec.ofChange fnExactAreLedSpec)

/-- ITS FALSE NEIGHBOUR: 'it returns false'. Refute it at one input. -/
def fnExactAreLedWrong : ChangeSpec := { name := "fnExactAreLed", fn := fun _ => fun
  | [d1, d2] => { results := [.lit (.bool false)], args := [d1, d2] }
  | _ => none }
def FnExactAreLedWrongFalsely : Prop := fnExactAreLedRow.holds Try.pinned (OpenSpec.ofChange fnExactAreLedWrong)

/-- 'laws.FnExactIsChain': WHATEVER THE INPUT: true; the input reads as it did. -/
def fnExactIsChainSpec : ChangeSpec := { name := "fnExactIsChain", fn := fun _ => fun
  | [d1, d2] => { results := [.lit (.bool true)], args := [d1, d2] }
  | _ => none }
def fnExactIsChainRow : OpenClaim := { program := "ytpmhfkjaijcioaa", sum := "257527b5c73dd1d8298d8c64185c930e2818825890d4a45be6a1e742e4d605b3", func := "loop.example/g01411/laws.FnExactIsChain", spec := "fnExactIsChain", unfollowed := true, recurses := true, apart := false }
def FnExactIsChainSaid : Prop := fnExactIsChainRow.holds Try.pinned (OpenSpec.ofChange fnExactIsChainSpec)

/-- ITS FALSE NEIGHBOUR: 'it returns false'. Refute it at one input. -/
def fnExactIsChainWrong : ChangeSpec := { name := "fnExactIsChain", fn := fun _ => fun
  | [d1, d2] => { results := [.lit (.bool false)], args := [d1, d2] }
  | _ => none }
def FnExactIsChainWrongFalsely : Prop := fnExactIsChainRow.holds Try.pinned (OpenSpec.ofChange fnExactIsChainWrong)

/-- 'laws.FnExactPairRows': WHATEVER THE INPUT: true; the input reads as it did. -/
def fnExactPairRowsSpec : ChangeSpec := { name := "fnExactPairRows", fn := fun _ => fun
  | [d] => { results := [.lit (.bool true)], args := [d] }
  | _ => none }
def fnExactPairRowsRow : OpenClaim := { program := "ytpmhfkjaijcioaa", sum := "257527b5c73dd1d8298d8c64185c930e2818825890d4a45be6a1e742e4d605b3", func := "loop.example/g01411/laws.FnExactPairRows", spec := "fnExactPairRows", apart := false }
def FnExactPairRowsSaid : Prop := fnExactPairRowsRow.holds Try.pinned (OpenSpec.ofChange fnExactPairRowsSpec)

/-- ITS FALSE NEIGHBOUR: 'it returns false'. Refute it at one input. -/
def fnExactPairRowsWrong : ChangeSpec := { name := "fnExactPairRows", fn := fun _ => fun
  | [d] => { results := [.lit (.bool false)], args := [d] }
  | _ => none }
def FnExactPairRowsWrongFalsely : Prop := fnExactPairRowsRow.holds Try.pinned (OpenSpec.ofChange fnExactPairRowsWrong)

/-- 'laws.FnExactJoinOverPlace': WHATEVER THE INPUT: true; the input reads as it did. -/
def fnExactJoinOverPlaceSpec : ChangeSpec := { name := "fnExactJoinOverPlace", fn := fun _ => fun
  | [d1, d2, d3, d4] => { results := [.lit (.bool true)], args := [d1, d2, d3, d4] }
  | _ => none }
def fnExactJoinOverPlaceRow : OpenClaim := { program := "ytpmhfkjaijcioaa", sum := "257527b5c73dd1d8298d8c64185c930e2818825890d4a45be6a1e742e4d605b3", func := "loop.example/g01411/laws.FnExactJoinOverPlace", spec := "fnExactJoinOverPlace", apart := false }
def FnExactJoinOverPlaceSaid : Prop := fnExactJoinOverPlaceRow.holds Try.pinned (OpenSpec.ofChange fnExactJoinOverPlaceSpec)

/-- ITS FALSE NEIGHBOUR: 'it returns false'. Refute it at one input. -/
def fnExactJoinOverPlaceWrong : ChangeSpec := { name := "fnExactJoinOverPlace", fn := fun _ => fun
  | [d1, d2, d3, d4] => { results := [.lit (.bool false)], args := [d1, d2, d3, d4] }
  | _ => none }
def FnExactJoinOverPlaceWrongFalsely : Prop := fnExactJoinOverPlaceRow.holds Try.pinned (OpenSpec.ofChange fnExactJoinOverPlaceWrong)

/-- 'laws.FnExactIsDesk': WHATEVER THE INPUT: true; the input reads as it did. -/
def fnExactIsDeskSpec : ChangeSpec := { name := "fnExactIsDesk", fn := fun _ => fun
  | [d] => { results := [.lit (.bool true)], args := [d] }
  | _ => none }
def fnExactIsDeskRow : OpenClaim := { program := "ytpmhfkjaijcioaa", sum := "257527b5c73dd1d8298d8c64185c930e2818825890d4a45be6a1e742e4d605b3", func := "loop.example/g01411/laws.FnExactIsDesk", spec := "fnExactIsDesk", apart := false }
def FnExactIsDeskSaid : Prop := fnExactIsDeskRow.holds Try.pinned (OpenSpec.ofChange fnExactIsDeskSpec)

/-- ITS FALSE NEIGHBOUR: 'it returns false'. Refute it at one input. -/
def fnExactIsDeskWrong : ChangeSpec := { name := "fnExactIsDesk", fn := fun _ => fun
  | [d] => { results := [.lit (.bool false)], args := [d] }
  | _ => none }
def FnExactIsDeskWrongFalsely : Prop := fnExactIsDeskRow.holds Try.pinned (OpenSpec.ofChange fnExactIsDeskWrong)

/-- 'laws.FnExactStrengthOf': WHATEVER THE INPUT: true; the input reads as it did. -/
def fnExactStrengthOfSpec : ChangeSpec := { name := "fnExactStrengthOf", fn := fun _ => fun
  | [d1, d2] => { results := [.lit (.bool true)], args := [d1, d2] }
  | _ => none }
def fnExactStrengthOfRow : OpenClaim := { program := "ytpmhfkjaijcioaa", sum := "257527b5c73dd1d8298d8c64185c930e2818825890d4a45be6a1e742e4d605b3", func := "loop.example/g01411/laws.FnExactStrengthOf", spec := "fnExactStrengthOf", unfollowed := true, recurses := true, apart := false }
def FnExactStrengthOfSaid : Prop := fnExactStrengthOfRow.holds Try.pinned (OpenSpec.ofChange fnExactStrengthOfSpec)

/-- ITS FALSE NEIGHBOUR: 'it returns false'. Refute it at one input. -/
def fnExactStrengthOfWrong : ChangeSpec := { name := "fnExactStrengthOf", fn := fun _ => fun
  | [d1, d2] => { results := [.lit (.bool false)], args := [d1, d2] }
  | _ => none }
def FnExactStrengthOfWrongFalsely : Prop := fnExactStrengthOfRow.holds Try.pinned (OpenSpec.ofChange fnExactStrengthOfWrong)

/-- 'laws.FnExactNewChoices': WHATEVER THE INPUT: true; the input reads as it did. -/
def fnExactNewChoicesSpec : ChangeSpec := { name := "fnExactNewChoices", fn := fun _ => fun
  | [d1, d2, d3] => { results := [.lit (.bool true)], args := [d1, d2, d3] }
  | _ => none }
def fnExactNewChoicesRow : OpenClaim := { program := "ytpmhfkjaijcioaa", sum := "257527b5c73dd1d8298d8c64185c930e2818825890d4a45be6a1e742e4d605b3", func := "loop.example/g01411/laws.FnExactNewChoices", spec := "fnExactNewChoices", unfollowed := true, recurses := true, apart := false }
def FnExactNewChoicesSaid : Prop := fnExactNewChoicesRow.holds Try.pinned (OpenSpec.ofChange fnExactNewChoicesSpec)

/-- ITS FALSE NEIGHBOUR: 'it returns false'. Refute it at one input. -/
def fnExactNewChoicesWrong : ChangeSpec := { name := "fnExactNewChoices", fn := fun _ => fun
  | [d1, d2, d3] => { results := [.lit (.bool false)], args := [d1, d2, d3] }
  | _ => none }
def FnExactNewChoicesWrongFalsely : Prop := fnExactNewChoicesRow.holds Try.pinned (OpenSpec.ofChange fnExactNewChoicesWrong)

/-- 'laws.FnExactNormAt': WHATEVER THE INPUT: true; the input reads as it did. -/
def fnExactNormAtSpec : ChangeSpec := { name := "fnExactNormAt", fn := fun _ => fun
  | [d1, d2, d3] => { results := [.lit (.bool true)], args := [d1, d2, d3] }
  | _ => none }
def fnExactNormAtRow : OpenClaim := { program := "ytpmhfkjaijcioaa", sum := "257527b5c73dd1d8298d8c64185c930e2818825890d4a45be6a1e742e4d605b3", func := "loop.example/g01411/laws.FnExactNormAt", spec := "fnExactNormAt", apart := false }
def FnExactNormAtSaid : Prop := fnExactNormAtRow.holds Try.pinned (OpenSpec.ofChange fnExactNormAtSpec)

/-- ITS FALSE NEIGHBOUR: 'it returns false'. Refute it at one input. -/
def fnExactNormAtWrong : ChangeSpec := { name := "fnExactNormAt", fn := fun _ => fun
  | [d1, d2, d3] => { results := [.lit (.bool false)], args := [d1, d2, d3] }
  | _ => none }
def FnExactNormAtWrongFalsely : Prop := fnExactNormAtRow.holds Try.pinned (OpenSpec.ofChange fnExactNormAtWrong)

/- THE SECOND FORM. 'bulk': how many values and letters a reading holds, each counted each time it is reached (what is shared counts as often as it is met; a slice's spare places count too). A statement '..UptoSaid' is the law's where the arguments, and the package variables that the reading takes, are together of bulk at most 1048576: NARROWER than '..Said'. Prove '..Said' where nothing that the law and all that it calls make is longer than what came in: it says more and counts as full. Else prove '..UptoSaid'. A law counts once. -/
mutual
def uptoBulk {H : Type} : DataW H → Nat
  | .lit (.string bytes) => bytes.length + 1
  | .lit _ => 1
  | .nil => 1
  | .ptr d => uptoBulk d + 1
  | .slice elems spare => uptoBulkAll elems + uptoBulkAll spare + 1
  | .agg parts => uptoBulkAll parts + 1
  | .iface _ d => uptoBulk d + 1
  | .map entries => uptoBulkEntries entries + 1
  | .held _ => 1
def uptoBulkAll {H : Type} : List (DataW H) → Nat
  | [] => 0
  | d :: r => uptoBulk d + uptoBulkAll r
def uptoBulkEntries {H : Type} : List (Lit × DataW H) → Nat
  | [] => 0
  | x :: r => uptoBulkEntry x + uptoBulkEntries r
def uptoBulkEntry {H : Type} : Lit × DataW H → Nat
  | (.string bytes, d) => bytes.length + uptoBulk d + 1
  | (_, d) => uptoBulk d + 1
 end
def uptoSmall : (H : Type) → List (DataW H) → Bool := fun _ ds => decide (uptoBulkAll ds ≤ 1048576)
def OpenSpec.upto (s : _root_.Go.ChangeSpec) : _root_.Go.OpenSpec := { _root_.Go.OpenSpec.ofChange s with cond := some uptoSmall }

/-- 'laws.FnExactNewDesk', WHERE WHAT IT READS IS OF BULK AT MOST 1048576: true; the input reads as it did. -/
def fnExactNewDeskUptoRow : OpenClaim := { program := "ytpmhfkjaijcioaa", sum := "257527b5c73dd1d8298d8c64185c930e2818825890d4a45be6a1e742e4d605b3", func := "loop.example/g01411/laws.FnExactNewDesk", spec := "fnExactNewDesk", apart := false, narrowed := true }
def FnExactNewDeskUptoSaid : Prop := fnExactNewDeskUptoRow.holds Try.pinned (OpenSpec.upto fnExactNewDeskSpec)

/-- 'laws.FnExactPairNumber', WHERE WHAT IT READS IS OF BULK AT MOST 1048576: true; the input reads as it did. -/
def fnExactPairNumberUptoRow : OpenClaim := { program := "ytpmhfkjaijcioaa", sum := "257527b5c73dd1d8298d8c64185c930e2818825890d4a45be6a1e742e4d605b3", func := "loop.example/g01411/laws.FnExactPairNumber", spec := "fnExactPairNumber", apart := false, narrowed := true }
def FnExactPairNumberUptoSaid : Prop := fnExactPairNumberUptoRow.holds Try.pinned (OpenSpec.upto fnExactPairNumberSpec)

/-- 'laws.FnExactHasChoice', WHERE WHAT IT READS IS OF BULK AT MOST 1048576: true; the input reads as it did. -/
def fnExactHasChoiceUptoRow : OpenClaim := { program := "ytpmhfkjaijcioaa", sum := "257527b5c73dd1d8298d8c64185c930e2818825890d4a45be6a1e742e4d605b3", func := "loop.example/g01411/laws.FnExactHasChoice", spec := "fnExactHasChoice", apart := false, narrowed := true }
def FnExactHasChoiceUptoSaid : Prop := fnExactHasChoiceUptoRow.holds Try.pinned (OpenSpec.upto fnExactHasChoiceSpec)

/-- 'laws.FnExactCountChoices', WHERE WHAT IT READS IS OF BULK AT MOST 1048576: true; the input reads as it did. -/
def fnExactCountChoicesUptoRow : OpenClaim := { program := "ytpmhfkjaijcioaa", sum := "257527b5c73dd1d8298d8c64185c930e2818825890d4a45be6a1e742e4d605b3", func := "loop.example/g01411/laws.FnExactCountChoices", spec := "fnExactCountChoices", unfollowed := true, recurses := true, apart := false, narrowed := true }
def FnExactCountChoicesUptoSaid : Prop := fnExactCountChoicesUptoRow.holds Try.pinned (OpenSpec.upto fnExactCountChoicesSpec)

/-- 'laws.FnExactAreLed', WHERE WHAT IT READS IS OF BULK AT MOST 1048576: true; the input reads as it did. -/
def fnExactAreLedUptoRow : OpenClaim := { program := "ytpmhfkjaijcioaa", sum := "257527b5c73dd1d8298d8c64185c930e2818825890d4a45be6a1e742e4d605b3", func := "loop.example/g01411/laws.FnExactAreLed", spec := "fnExactAreLed", unfollowed := true, recurses := true, apart := false, narrowed := true }
def FnExactAreLedUptoSaid : Prop := fnExactAreLedUptoRow.holds Try.pinned (OpenSpec.upto fnExactAreLedSpec)

/-- 'laws.FnExactIsChain', WHERE WHAT IT READS IS OF BULK AT MOST 1048576: true; the input reads as it did. -/
def fnExactIsChainUptoRow : OpenClaim := { program := "ytpmhfkjaijcioaa", sum := "257527b5c73dd1d8298d8c64185c930e2818825890d4a45be6a1e742e4d605b3", func := "loop.example/g01411/laws.FnExactIsChain", spec := "fnExactIsChain", unfollowed := true, recurses := true, apart := false, narrowed := true }
def FnExactIsChainUptoSaid : Prop := fnExactIsChainUptoRow.holds Try.pinned (OpenSpec.upto fnExactIsChainSpec)

/-- 'laws.FnExactPairRows', WHERE WHAT IT READS IS OF BULK AT MOST 1048576: true; the input reads as it did. -/
def fnExactPairRowsUptoRow : OpenClaim := { program := "ytpmhfkjaijcioaa", sum := "257527b5c73dd1d8298d8c64185c930e2818825890d4a45be6a1e742e4d605b3", func := "loop.example/g01411/laws.FnExactPairRows", spec := "fnExactPairRows", apart := false, narrowed := true }
def FnExactPairRowsUptoSaid : Prop := fnExactPairRowsUptoRow.holds Try.pinned (OpenSpec.upto fnExactPairRowsSpec)

/-- 'laws.FnExactJoinOverPlace', WHERE WHAT IT READS IS OF BULK AT MOST 1048576: true; the input reads as it did. -/
def fnExactJoinOverPlaceUptoRow : OpenClaim := { program := "ytpmhfkjaijcioaa", sum := "257527b5c73dd1d8298d8c64185c930e2818825890d4a45be6a1e742e4d605b3", func := "loop.example/g01411/laws.FnExactJoinOverPlace", spec := "fnExactJoinOverPlace", apart := false, narrowed := true }
def FnExactJoinOverPlaceUptoSaid : Prop := fnExactJoinOverPlaceUptoRow.holds Try.pinned (OpenSpec.upto fnExactJoinOverPlaceSpec)

/-- 'laws.FnExactIsDesk', WHERE WHAT IT READS IS OF BULK AT MOST 1048576: true; the input reads as it did. -/
def fnExactIsDeskUptoRow : OpenClaim := { program := "ytpmhfkjaijcioaa", sum := "257527b5c73dd1d8298d8c64185c930e2818825890d4a45be6a1e742e4d605b3", func := "loop.example/g01411/laws.FnExactIsDesk", spec := "fnExactIsDesk", apart := false, narrowed := true }
def FnExactIsDeskUptoSaid : Prop := fnExactIsDeskUptoRow.holds Try.pinned (OpenSpec.upto fnExactIsDeskSpec)

/-- 'laws.FnExactStrengthOf', WHERE WHAT IT READS IS OF BULK AT MOST 1048576: true; the input reads as it did. -/
def fnExactStrengthOfUptoRow : OpenClaim := { program := "ytpmhfkjaijcioaa", sum := "257527b5c73dd1d8298d8c64185c930e2818825890d4a45be6a1e742e4d605b3", func := "loop.example/g01411/laws.FnExactStrengthOf", spec := "fnExactStrengthOf", unfollowed := true, recurses := true, apart := false, narrowed := true }
def FnExactStrengthOfUptoSaid : Prop := fnExactStrengthOfUptoRow.holds Try.pinned (OpenSpec.upto fnExactStrengthOfSpec)

/-- 'laws.FnExactNewChoices', WHERE WHAT IT READS IS OF BULK AT MOST 1048576: true; the input reads as it did. -/
def fnExactNewChoicesUptoRow : OpenClaim := { program := "ytpmhfkjaijcioaa", sum := "257527b5c73dd1d8298d8c64185c930e2818825890d4a45be6a1e742e4d605b3", func := "loop.example/g01411/laws.FnExactNewChoices", spec := "fnExactNewChoices", unfollowed := true, recurses := true, apart := false, narrowed := true }
def FnExactNewChoicesUptoSaid : Prop := fnExactNewChoicesUptoRow.holds Try.pinned (OpenSpec.upto fnExactNewChoicesSpec)

/-- 'laws.FnExactNormAt', WHERE WHAT IT READS IS OF BULK AT MOST 1048576: true; the input reads as it did. -/
def fnExactNormAtUptoRow : OpenClaim := { program := "ytpmhfkjaijcioaa", sum := "257527b5c73dd1d8298d8c64185c930e2818825890d4a45be6a1e742e4d605b3", func := "loop.example/g01411/laws.FnExactNormAt", spec := "fnExactNormAt", apart := false, narrowed := true }
def FnExactNormAtUptoSaid : Prop := fnExactNormAtUptoRow.holds Try.pinned (OpenSpec.upto fnExactNormAtSpec)

end Rows
end Go.Proofs.Ytpmhfkjaijcioaa
