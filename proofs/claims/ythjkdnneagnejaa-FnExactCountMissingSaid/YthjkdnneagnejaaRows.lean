/-
  No cell of these rows narrows 'for every input' (looked for: loops, veiled, ifaces, maps, wideKeys, modest, calm, conditions, laid).
  DERIVED. THE GIVEN ROWS OF THIS SEAT. 19 by the template 'for every input the law returns true; each argument reads behind the call as it read before'; 0 by the template 'total and deterministic' (their statements: YthjkdnneagnejaaTotals.lean).
  GIVEN WITH THE SEED: the statements are not yours to turn. If you find one false, say at which input.
  Laid BY PROGRAM, IN A SANDBOX (cutbox-rows.mjs): the forced cells as the released guide's own fill.sh prints them over the translation bddf14164423b3cf… (all of the seat's roots in one cut). By AI agents, Wed Nov 11 2026. No macro, syntax, notation, axiom, sorry.
-/
import Derived.Test.YthjkdnneagnejaaChecked
import GoSem.Claim
import GoSem.ClaimJoined
import GoSem.ClaimMapViews
import Derived.JoinedTies
import Derived.KernelRfl
namespace Go.Proofs.Ythjkdnneagnejaa
/- THE CELL 'sum', in the pinned program and in every row, IS THE sha256 OF THE DUMP (.gsa) THAT YthjkdnneagnejaaProg.lean LOADS. Nothing in Lean hashes anything: it is a label: what it is worth is what the hold of that sum in a sandbox is worth. -/
noncomputable def Try.pinned : Pinned := { name := "ythjkdnneagnejaa", sum := "bddf14164423b3cf2da5a26513d69c9ba0b677dc7dfe58c16bb2ad2b3fc41898", checked := Try.checked }
namespace Rows
def none {H : Type} : Left H := { results := [], args := [] }

/-- 'laws.FnExactHasChoice': WHATEVER THE INPUT: true; the input reads as it did. -/
def fnExactHasChoiceSpec : ChangeSpec := { name := "fnExactHasChoice", fn := fun _ => fun
  | [d1, d2, d3] => { results := [.lit (.bool true)], args := [d1, d2, d3] }
  | _ => none }
def fnExactHasChoiceRow : OpenClaim := { program := "ythjkdnneagnejaa", sum := "bddf14164423b3cf2da5a26513d69c9ba0b677dc7dfe58c16bb2ad2b3fc41898", func := "loop.example/g01411/laws.FnExactHasChoice", spec := "fnExactHasChoice", apart := false }
def FnExactHasChoiceSaid : Prop := fnExactHasChoiceRow.holds Try.pinned (OpenSpec.ofChange fnExactHasChoiceSpec)

/-- ITS FALSE NEIGHBOUR: 'it returns false'. Refute it at one input. -/
def fnExactHasChoiceWrong : ChangeSpec := { name := "fnExactHasChoice", fn := fun _ => fun
  | [d1, d2, d3] => { results := [.lit (.bool false)], args := [d1, d2, d3] }
  | _ => none }
def FnExactHasChoiceWrongFalsely : Prop := fnExactHasChoiceRow.holds Try.pinned (OpenSpec.ofChange fnExactHasChoiceWrong)

/-- 'laws.FnExactCountChoices': WHATEVER THE INPUT: true; the input reads as it did. -/
def fnExactCountChoicesSpec : ChangeSpec := { name := "fnExactCountChoices", fn := fun _ => fun
  | [d1, d2] => { results := [.lit (.bool true)], args := [d1, d2] }
  | _ => none }
def fnExactCountChoicesRow : OpenClaim := { program := "ythjkdnneagnejaa", sum := "bddf14164423b3cf2da5a26513d69c9ba0b677dc7dfe58c16bb2ad2b3fc41898", func := "loop.example/g01411/laws.FnExactCountChoices", spec := "fnExactCountChoices", unfollowed := true, recurses := true, apart := false }
def FnExactCountChoicesSaid : Prop := fnExactCountChoicesRow.holds Try.pinned (OpenSpec.ofChange fnExactCountChoicesSpec)

/-- ITS FALSE NEIGHBOUR: 'it returns false'. Refute it at one input. -/
def fnExactCountChoicesWrong : ChangeSpec := { name := "fnExactCountChoices", fn := fun _ => fun
  | [d1, d2] => { results := [.lit (.bool false)], args := [d1, d2] }
  | _ => none }
def FnExactCountChoicesWrongFalsely : Prop := fnExactCountChoicesRow.holds Try.pinned (OpenSpec.ofChange fnExactCountChoicesWrong)

/-- 'laws.FnExactAreLed': WHATEVER THE INPUT: true; the input reads as it did. -/
def fnExactAreLedSpec : ChangeSpec := { name := "fnExactAreLed", fn := fun _ => fun
  | [d1, d2] => { results := [.lit (.bool true)], args := [d1, d2] }
  | _ => none }
def fnExactAreLedRow : OpenClaim := { program := "ythjkdnneagnejaa", sum := "bddf14164423b3cf2da5a26513d69c9ba0b677dc7dfe58c16bb2ad2b3fc41898", func := "loop.example/g01411/laws.FnExactAreLed", spec := "fnExactAreLed", unfollowed := true, recurses := true, apart := false }
def FnExactAreLedSaid : Prop := fnExactAreLedRow.holds Try.pinned (OpenSpec.ofChange fnExactAreLedSpec)

/-- ITS FALSE NEIGHBOUR: 'it returns false'. Refute it at one input. -/
def fnExactAreLedWrong : ChangeSpec := { name := "fnExactAreLed", fn := fun _ => fun
  | [d1, d2] => { results := [.lit (.bool false)], args := [d1, d2] }
  | _ => none }
def FnExactAreLedWrongFalsely : Prop := fnExactAreLedRow.holds Try.pinned (OpenSpec.ofChange fnExactAreLedWrong)

/-- 'laws.FnExactIsChain': WHATEVER THE INPUT: true; the input reads as it did. -/
def fnExactIsChainSpec : ChangeSpec := { name := "fnExactIsChain", fn := fun _ => fun
  | [d1, d2] => { results := [.lit (.bool true)], args := [d1, d2] }
  | _ => none }
def fnExactIsChainRow : OpenClaim := { program := "ythjkdnneagnejaa", sum := "bddf14164423b3cf2da5a26513d69c9ba0b677dc7dfe58c16bb2ad2b3fc41898", func := "loop.example/g01411/laws.FnExactIsChain", spec := "fnExactIsChain", unfollowed := true, recurses := true, apart := false }
def FnExactIsChainSaid : Prop := fnExactIsChainRow.holds Try.pinned (OpenSpec.ofChange fnExactIsChainSpec)

/-- ITS FALSE NEIGHBOUR: 'it returns false'. Refute it at one input. -/
def fnExactIsChainWrong : ChangeSpec := { name := "fnExactIsChain", fn := fun _ => fun
  | [d1, d2] => { results := [.lit (.bool false)], args := [d1, d2] }
  | _ => none }
def FnExactIsChainWrongFalsely : Prop := fnExactIsChainRow.holds Try.pinned (OpenSpec.ofChange fnExactIsChainWrong)

/-- 'laws.FnExactPairRows': WHATEVER THE INPUT: true; the input reads as it did. -/
def fnExactPairRowsSpec : ChangeSpec := { name := "fnExactPairRows", fn := fun _ => fun
  | [d] => { results := [.lit (.bool true)], args := [d] }
  | _ => none }
def fnExactPairRowsRow : OpenClaim := { program := "ythjkdnneagnejaa", sum := "bddf14164423b3cf2da5a26513d69c9ba0b677dc7dfe58c16bb2ad2b3fc41898", func := "loop.example/g01411/laws.FnExactPairRows", spec := "fnExactPairRows", apart := false }
def FnExactPairRowsSaid : Prop := fnExactPairRowsRow.holds Try.pinned (OpenSpec.ofChange fnExactPairRowsSpec)

/-- ITS FALSE NEIGHBOUR: 'it returns false'. Refute it at one input. -/
def fnExactPairRowsWrong : ChangeSpec := { name := "fnExactPairRows", fn := fun _ => fun
  | [d] => { results := [.lit (.bool false)], args := [d] }
  | _ => none }
def FnExactPairRowsWrongFalsely : Prop := fnExactPairRowsRow.holds Try.pinned (OpenSpec.ofChange fnExactPairRowsWrong)

/-- 'laws.FnExactJoinOverPlace': WHATEVER THE INPUT: true; the input reads as it did. -/
def fnExactJoinOverPlaceSpec : ChangeSpec := { name := "fnExactJoinOverPlace", fn := fun _ => fun
  | [d1, d2, d3, d4] => { results := [.lit (.bool true)], args := [d1, d2, d3, d4] }
  | _ => none }
def fnExactJoinOverPlaceRow : OpenClaim := { program := "ythjkdnneagnejaa", sum := "bddf14164423b3cf2da5a26513d69c9ba0b677dc7dfe58c16bb2ad2b3fc41898", func := "loop.example/g01411/laws.FnExactJoinOverPlace", spec := "fnExactJoinOverPlace", apart := false }
def FnExactJoinOverPlaceSaid : Prop := fnExactJoinOverPlaceRow.holds Try.pinned (OpenSpec.ofChange fnExactJoinOverPlaceSpec)

/-- ITS FALSE NEIGHBOUR: 'it returns false'. Refute it at one input. -/
def fnExactJoinOverPlaceWrong : ChangeSpec := { name := "fnExactJoinOverPlace", fn := fun _ => fun
  | [d1, d2, d3, d4] => { results := [.lit (.bool false)], args := [d1, d2, d3, d4] }
  | _ => none }
def FnExactJoinOverPlaceWrongFalsely : Prop := fnExactJoinOverPlaceRow.holds Try.pinned (OpenSpec.ofChange fnExactJoinOverPlaceWrong)

/-- 'laws.FnExactStrengthOf': WHATEVER THE INPUT: true; the input reads as it did. -/
def fnExactStrengthOfSpec : ChangeSpec := { name := "fnExactStrengthOf", fn := fun _ => fun
  | [d1, d2] => { results := [.lit (.bool true)], args := [d1, d2] }
  | _ => none }
def fnExactStrengthOfRow : OpenClaim := { program := "ythjkdnneagnejaa", sum := "bddf14164423b3cf2da5a26513d69c9ba0b677dc7dfe58c16bb2ad2b3fc41898", func := "loop.example/g01411/laws.FnExactStrengthOf", spec := "fnExactStrengthOf", unfollowed := true, recurses := true, apart := false }
def FnExactStrengthOfSaid : Prop := fnExactStrengthOfRow.holds Try.pinned (OpenSpec.ofChange fnExactStrengthOfSpec)

/-- ITS FALSE NEIGHBOUR: 'it returns false'. Refute it at one input. -/
def fnExactStrengthOfWrong : ChangeSpec := { name := "fnExactStrengthOf", fn := fun _ => fun
  | [d1, d2] => { results := [.lit (.bool false)], args := [d1, d2] }
  | _ => none }
def FnExactStrengthOfWrongFalsely : Prop := fnExactStrengthOfRow.holds Try.pinned (OpenSpec.ofChange fnExactStrengthOfWrong)

/-- 'laws.FnExactNewChoices': WHATEVER THE INPUT: true; the input reads as it did. -/
def fnExactNewChoicesSpec : ChangeSpec := { name := "fnExactNewChoices", fn := fun _ => fun
  | [d1, d2, d3] => { results := [.lit (.bool true)], args := [d1, d2, d3] }
  | _ => none }
def fnExactNewChoicesRow : OpenClaim := { program := "ythjkdnneagnejaa", sum := "bddf14164423b3cf2da5a26513d69c9ba0b677dc7dfe58c16bb2ad2b3fc41898", func := "loop.example/g01411/laws.FnExactNewChoices", spec := "fnExactNewChoices", unfollowed := true, recurses := true, apart := false }
def FnExactNewChoicesSaid : Prop := fnExactNewChoicesRow.holds Try.pinned (OpenSpec.ofChange fnExactNewChoicesSpec)

/-- ITS FALSE NEIGHBOUR: 'it returns false'. Refute it at one input. -/
def fnExactNewChoicesWrong : ChangeSpec := { name := "fnExactNewChoices", fn := fun _ => fun
  | [d1, d2, d3] => { results := [.lit (.bool false)], args := [d1, d2, d3] }
  | _ => none }
def FnExactNewChoicesWrongFalsely : Prop := fnExactNewChoicesRow.holds Try.pinned (OpenSpec.ofChange fnExactNewChoicesWrong)

/-- 'laws.FnExactNormAt': WHATEVER THE INPUT: true; the input reads as it did. -/
def fnExactNormAtSpec : ChangeSpec := { name := "fnExactNormAt", fn := fun _ => fun
  | [d1, d2, d3] => { results := [.lit (.bool true)], args := [d1, d2, d3] }
  | _ => none }
def fnExactNormAtRow : OpenClaim := { program := "ythjkdnneagnejaa", sum := "bddf14164423b3cf2da5a26513d69c9ba0b677dc7dfe58c16bb2ad2b3fc41898", func := "loop.example/g01411/laws.FnExactNormAt", spec := "fnExactNormAt", apart := false }
def FnExactNormAtSaid : Prop := fnExactNormAtRow.holds Try.pinned (OpenSpec.ofChange fnExactNormAtSpec)

/-- ITS FALSE NEIGHBOUR: 'it returns false'. Refute it at one input. -/
def fnExactNormAtWrong : ChangeSpec := { name := "fnExactNormAt", fn := fun _ => fun
  | [d1, d2, d3] => { results := [.lit (.bool false)], args := [d1, d2, d3] }
  | _ => none }
def FnExactNormAtWrongFalsely : Prop := fnExactNormAtRow.holds Try.pinned (OpenSpec.ofChange fnExactNormAtWrong)

/-- 'laws.FnExactGreedyRows': WHATEVER THE INPUT: true; the input reads as it did. -/
def fnExactGreedyRowsSpec : ChangeSpec := { name := "fnExactGreedyRows", fn := fun _ => fun
  | [d1, d2] => { results := [.lit (.bool true)], args := [d1, d2] }
  | _ => none }
def fnExactGreedyRowsRow : OpenClaim := { program := "ythjkdnneagnejaa", sum := "bddf14164423b3cf2da5a26513d69c9ba0b677dc7dfe58c16bb2ad2b3fc41898", func := "loop.example/g01411/laws.FnExactGreedyRows", spec := "fnExactGreedyRows", unfollowed := true, recurses := true, apart := false }
def FnExactGreedyRowsSaid : Prop := fnExactGreedyRowsRow.holds Try.pinned (OpenSpec.ofChange fnExactGreedyRowsSpec)

/-- ITS FALSE NEIGHBOUR: 'it returns false'. Refute it at one input. -/
def fnExactGreedyRowsWrong : ChangeSpec := { name := "fnExactGreedyRows", fn := fun _ => fun
  | [d1, d2] => { results := [.lit (.bool false)], args := [d1, d2] }
  | _ => none }
def FnExactGreedyRowsWrongFalsely : Prop := fnExactGreedyRowsRow.holds Try.pinned (OpenSpec.ofChange fnExactGreedyRowsWrong)

/-- 'laws.FnExactLeanRows': WHATEVER THE INPUT: true; the input reads as it did. -/
def fnExactLeanRowsSpec : ChangeSpec := { name := "fnExactLeanRows", fn := fun _ => fun
  | [d1, d2, d3] => { results := [.lit (.bool true)], args := [d1, d2, d3] }
  | _ => none }
def fnExactLeanRowsRow : OpenClaim := { program := "ythjkdnneagnejaa", sum := "bddf14164423b3cf2da5a26513d69c9ba0b677dc7dfe58c16bb2ad2b3fc41898", func := "loop.example/g01411/laws.FnExactLeanRows", spec := "fnExactLeanRows", unfollowed := true, recurses := true, apart := false }
def FnExactLeanRowsSaid : Prop := fnExactLeanRowsRow.holds Try.pinned (OpenSpec.ofChange fnExactLeanRowsSpec)

/-- ITS FALSE NEIGHBOUR: 'it returns false'. Refute it at one input. -/
def fnExactLeanRowsWrong : ChangeSpec := { name := "fnExactLeanRows", fn := fun _ => fun
  | [d1, d2, d3] => { results := [.lit (.bool false)], args := [d1, d2, d3] }
  | _ => none }
def FnExactLeanRowsWrongFalsely : Prop := fnExactLeanRowsRow.holds Try.pinned (OpenSpec.ofChange fnExactLeanRowsWrong)

/-- 'laws.FnExactReachesOf': WHATEVER THE INPUT: true; the input reads as it did. -/
def fnExactReachesOfSpec : ChangeSpec := { name := "fnExactReachesOf", fn := fun _ => fun
  | [d1, d2, d3, d4] => { results := [.lit (.bool true)], args := [d1, d2, d3, d4] }
  | _ => none }
def fnExactReachesOfRow : OpenClaim := { program := "ythjkdnneagnejaa", sum := "bddf14164423b3cf2da5a26513d69c9ba0b677dc7dfe58c16bb2ad2b3fc41898", func := "loop.example/g01411/laws.FnExactReachesOf", spec := "fnExactReachesOf", apart := false }
def FnExactReachesOfSaid : Prop := fnExactReachesOfRow.holds Try.pinned (OpenSpec.ofChange fnExactReachesOfSpec)

/-- ITS FALSE NEIGHBOUR: 'it returns false'. Refute it at one input. -/
def fnExactReachesOfWrong : ChangeSpec := { name := "fnExactReachesOf", fn := fun _ => fun
  | [d1, d2, d3, d4] => { results := [.lit (.bool false)], args := [d1, d2, d3, d4] }
  | _ => none }
def FnExactReachesOfWrongFalsely : Prop := fnExactReachesOfRow.holds Try.pinned (OpenSpec.ofChange fnExactReachesOfWrong)

/-- 'laws.FnExactCountMissing': WHATEVER THE INPUT: true; the input reads as it did. -/
def fnExactCountMissingSpec : ChangeSpec := { name := "fnExactCountMissing", fn := fun _ => fun
  | [d1, d2, d3] => { results := [.lit (.bool true)], args := [d1, d2, d3] }
  | _ => none }
def fnExactCountMissingRow : OpenClaim := { program := "ythjkdnneagnejaa", sum := "bddf14164423b3cf2da5a26513d69c9ba0b677dc7dfe58c16bb2ad2b3fc41898", func := "loop.example/g01411/laws.FnExactCountMissing", spec := "fnExactCountMissing", unfollowed := true, recurses := true, apart := false }
def FnExactCountMissingSaid : Prop := fnExactCountMissingRow.holds Try.pinned (OpenSpec.ofChange fnExactCountMissingSpec)

/-- ITS FALSE NEIGHBOUR: 'it returns false'. Refute it at one input. -/
def fnExactCountMissingWrong : ChangeSpec := { name := "fnExactCountMissing", fn := fun _ => fun
  | [d1, d2, d3] => { results := [.lit (.bool false)], args := [d1, d2, d3] }
  | _ => none }
def FnExactCountMissingWrongFalsely : Prop := fnExactCountMissingRow.holds Try.pinned (OpenSpec.ofChange fnExactCountMissingWrong)

/-- 'laws.FnExactIsNormal': WHATEVER THE INPUT: true; the input reads as it did. -/
def fnExactIsNormalSpec : ChangeSpec := { name := "fnExactIsNormal", fn := fun _ => fun
  | [d1, d2] => { results := [.lit (.bool true)], args := [d1, d2] }
  | _ => none }
def fnExactIsNormalRow : OpenClaim := { program := "ythjkdnneagnejaa", sum := "bddf14164423b3cf2da5a26513d69c9ba0b677dc7dfe58c16bb2ad2b3fc41898", func := "loop.example/g01411/laws.FnExactIsNormal", spec := "fnExactIsNormal", apart := false }
def FnExactIsNormalSaid : Prop := fnExactIsNormalRow.holds Try.pinned (OpenSpec.ofChange fnExactIsNormalSpec)

/-- ITS FALSE NEIGHBOUR: 'it returns false'. Refute it at one input. -/
def fnExactIsNormalWrong : ChangeSpec := { name := "fnExactIsNormal", fn := fun _ => fun
  | [d1, d2] => { results := [.lit (.bool false)], args := [d1, d2] }
  | _ => none }
def FnExactIsNormalWrongFalsely : Prop := fnExactIsNormalRow.holds Try.pinned (OpenSpec.ofChange fnExactIsNormalWrong)

/-- 'laws.FnExactMissingChoices': WHATEVER THE INPUT: true; the input reads as it did. -/
def fnExactMissingChoicesSpec : ChangeSpec := { name := "fnExactMissingChoices", fn := fun _ => fun
  | [d1, d2, d3] => { results := [.lit (.bool true)], args := [d1, d2, d3] }
  | _ => none }
def fnExactMissingChoicesRow : OpenClaim := { program := "ythjkdnneagnejaa", sum := "bddf14164423b3cf2da5a26513d69c9ba0b677dc7dfe58c16bb2ad2b3fc41898", func := "loop.example/g01411/laws.FnExactMissingChoices", spec := "fnExactMissingChoices", unfollowed := true, recurses := true, apart := false }
def FnExactMissingChoicesSaid : Prop := fnExactMissingChoicesRow.holds Try.pinned (OpenSpec.ofChange fnExactMissingChoicesSpec)

/-- ITS FALSE NEIGHBOUR: 'it returns false'. Refute it at one input. -/
def fnExactMissingChoicesWrong : ChangeSpec := { name := "fnExactMissingChoices", fn := fun _ => fun
  | [d1, d2, d3] => { results := [.lit (.bool false)], args := [d1, d2, d3] }
  | _ => none }
def FnExactMissingChoicesWrongFalsely : Prop := fnExactMissingChoicesRow.holds Try.pinned (OpenSpec.ofChange fnExactMissingChoicesWrong)

/-- 'laws.FnExactWordsReached': WHATEVER THE INPUT: true; the input reads as it did. -/
def fnExactWordsReachedSpec : ChangeSpec := { name := "fnExactWordsReached", fn := fun _ => fun
  | [d1, d2, d3, d4] => { results := [.lit (.bool true)], args := [d1, d2, d3, d4] }
  | _ => none }
def fnExactWordsReachedRow : OpenClaim := { program := "ythjkdnneagnejaa", sum := "bddf14164423b3cf2da5a26513d69c9ba0b677dc7dfe58c16bb2ad2b3fc41898", func := "loop.example/g01411/laws.FnExactWordsReached", spec := "fnExactWordsReached", unfollowed := true, recurses := true, apart := false }
def FnExactWordsReachedSaid : Prop := fnExactWordsReachedRow.holds Try.pinned (OpenSpec.ofChange fnExactWordsReachedSpec)

/-- ITS FALSE NEIGHBOUR: 'it returns false'. Refute it at one input. -/
def fnExactWordsReachedWrong : ChangeSpec := { name := "fnExactWordsReached", fn := fun _ => fun
  | [d1, d2, d3, d4] => { results := [.lit (.bool false)], args := [d1, d2, d3, d4] }
  | _ => none }
def FnExactWordsReachedWrongFalsely : Prop := fnExactWordsReachedRow.holds Try.pinned (OpenSpec.ofChange fnExactWordsReachedWrong)

/-- 'laws.FnExactFitPlaces': WHATEVER THE INPUT: true; the input reads as it did. -/
def fnExactFitPlacesSpec : ChangeSpec := { name := "fnExactFitPlaces", fn := fun _ => fun
  | [d1, d2] => { results := [.lit (.bool true)], args := [d1, d2] }
  | _ => none }
def fnExactFitPlacesRow : OpenClaim := { program := "ythjkdnneagnejaa", sum := "bddf14164423b3cf2da5a26513d69c9ba0b677dc7dfe58c16bb2ad2b3fc41898", func := "loop.example/g01411/laws.FnExactFitPlaces", spec := "fnExactFitPlaces", apart := false }
def FnExactFitPlacesSaid : Prop := fnExactFitPlacesRow.holds Try.pinned (OpenSpec.ofChange fnExactFitPlacesSpec)

/-- ITS FALSE NEIGHBOUR: 'it returns false'. Refute it at one input. -/
def fnExactFitPlacesWrong : ChangeSpec := { name := "fnExactFitPlaces", fn := fun _ => fun
  | [d1, d2] => { results := [.lit (.bool false)], args := [d1, d2] }
  | _ => none }
def FnExactFitPlacesWrongFalsely : Prop := fnExactFitPlacesRow.holds Try.pinned (OpenSpec.ofChange fnExactFitPlacesWrong)

/-- 'laws.FnExactCodeByColumns': WHATEVER THE INPUT: true; the input reads as it did. -/
def fnExactCodeByColumnsSpec : ChangeSpec := { name := "fnExactCodeByColumns", fn := fun _ => fun
  | [d1, d2, d3] => { results := [.lit (.bool true)], args := [d1, d2, d3] }
  | _ => none }
def fnExactCodeByColumnsRow : OpenClaim := { program := "ythjkdnneagnejaa", sum := "bddf14164423b3cf2da5a26513d69c9ba0b677dc7dfe58c16bb2ad2b3fc41898", func := "loop.example/g01411/laws.FnExactCodeByColumns", spec := "fnExactCodeByColumns", unfollowed := true, recurses := true, apart := false }
def FnExactCodeByColumnsSaid : Prop := fnExactCodeByColumnsRow.holds Try.pinned (OpenSpec.ofChange fnExactCodeByColumnsSpec)

/-- ITS FALSE NEIGHBOUR: 'it returns false'. Refute it at one input. -/
def fnExactCodeByColumnsWrong : ChangeSpec := { name := "fnExactCodeByColumns", fn := fun _ => fun
  | [d1, d2, d3] => { results := [.lit (.bool false)], args := [d1, d2, d3] }
  | _ => none }
def FnExactCodeByColumnsWrongFalsely : Prop := fnExactCodeByColumnsRow.holds Try.pinned (OpenSpec.ofChange fnExactCodeByColumnsWrong)

/-- 'laws.FnExactChoiceBound': WHATEVER THE INPUT: true; the input reads as it did. -/
def fnExactChoiceBoundSpec : ChangeSpec := { name := "fnExactChoiceBound", fn := fun _ => fun
  | [d1, d2] => { results := [.lit (.bool true)], args := [d1, d2] }
  | _ => none }
def fnExactChoiceBoundRow : OpenClaim := { program := "ythjkdnneagnejaa", sum := "bddf14164423b3cf2da5a26513d69c9ba0b677dc7dfe58c16bb2ad2b3fc41898", func := "loop.example/g01411/laws.FnExactChoiceBound", spec := "fnExactChoiceBound", recurses := true, apart := false }
def FnExactChoiceBoundSaid : Prop := fnExactChoiceBoundRow.holds Try.pinned (OpenSpec.ofChange fnExactChoiceBoundSpec)

/-- ITS FALSE NEIGHBOUR: 'it returns false'. Refute it at one input. -/
def fnExactChoiceBoundWrong : ChangeSpec := { name := "fnExactChoiceBound", fn := fun _ => fun
  | [d1, d2] => { results := [.lit (.bool false)], args := [d1, d2] }
  | _ => none }
def FnExactChoiceBoundWrongFalsely : Prop := fnExactChoiceBoundRow.holds Try.pinned (OpenSpec.ofChange fnExactChoiceBoundWrong)

/- THE SECOND FORM. 'bulk': how many values and letters a reading holds, each counted each time it is reached (what is shared counts as often as it is met; a slice's spare places count too). A statement '..UptoSaid' is the law's where the arguments, and the package variables that the reading takes, are together of bulk at most 1048576: NARROWER than '..Said'. Prove '..Said' where nothing that the law and all that it calls make is longer than what came in: it says more and counts as full. Else prove '..UptoSaid'. A law counts once. -/
mutual
def uptoBulk {H : Type} : DataW H → Nat
  | .lit (.string bytes) => bytes.length + 1
  | .lit _ => 1
  | .nil => 1
  | .ptr d => uptoBulk d + 1
  | .slice elems spare => uptoBulkAll elems + uptoBulkAll spare + 1
  | .agg parts => uptoBulkAll parts + 1
  | .iface _ d => uptoBulk d + 1
  | .map entries => uptoBulkEntries entries + 1
  | .held _ => 1
def uptoBulkAll {H : Type} : List (DataW H) → Nat
  | [] => 0
  | d :: r => uptoBulk d + uptoBulkAll r
def uptoBulkEntries {H : Type} : List (Lit × DataW H) → Nat
  | [] => 0
  | x :: r => uptoBulkEntry x + uptoBulkEntries r
def uptoBulkEntry {H : Type} : Lit × DataW H → Nat
  | (.string bytes, d) => bytes.length + uptoBulk d + 1
  | (_, d) => uptoBulk d + 1
 end
def uptoSmall : (H : Type) → List (DataW H) → Bool := fun _ ds => decide (uptoBulkAll ds ≤ 1048576)
def OpenSpec.upto (s : _root_.Go.ChangeSpec) : _root_.Go.OpenSpec := { _root_.Go.OpenSpec.ofChange s with cond := some uptoSmall }

/-- 'laws.FnExactHasChoice', WHERE WHAT IT READS IS OF BULK AT MOST 1048576: true; the input reads as it did. -/
def fnExactHasChoiceUptoRow : OpenClaim := { program := "ythjkdnneagnejaa", sum := "bddf14164423b3cf2da5a26513d69c9ba0b677dc7dfe58c16bb2ad2b3fc41898", func := "loop.example/g01411/laws.FnExactHasChoice", spec := "fnExactHasChoice", apart := false, narrowed := true }
def FnExactHasChoiceUptoSaid : Prop := fnExactHasChoiceUptoRow.holds Try.pinned (OpenSpec.upto fnExactHasChoiceSpec)

/-- 'laws.FnExactCountChoices', WHERE WHAT IT READS IS OF BULK AT MOST 1048576: true; the input reads as it did. -/
def fnExactCountChoicesUptoRow : OpenClaim := { program := "ythjkdnneagnejaa", sum := "bddf14164423b3cf2da5a26513d69c9ba0b677dc7dfe58c16bb2ad2b3fc41898", func := "loop.example/g01411/laws.FnExactCountChoices", spec := "fnExactCountChoices", unfollowed := true, recurses := true, apart := false, narrowed := true }
def FnExactCountChoicesUptoSaid : Prop := fnExactCountChoicesUptoRow.holds Try.pinned (OpenSpec.upto fnExactCountChoicesSpec)

/-- 'laws.FnExactAreLed', WHERE WHAT IT READS IS OF BULK AT MOST 1048576: true; the input reads as it did. -/
def fnExactAreLedUptoRow : OpenClaim := { program := "ythjkdnneagnejaa", sum := "bddf14164423b3cf2da5a26513d69c9ba0b677dc7dfe58c16bb2ad2b3fc41898", func := "loop.example/g01411/laws.FnExactAreLed", spec := "fnExactAreLed", unfollowed := true, recurses := true, apart := false, narrowed := true }
def FnExactAreLedUptoSaid : Prop := fnExactAreLedUptoRow.holds Try.pinned (OpenSpec.upto fnExactAreLedSpec)

/-- 'laws.FnExactIsChain', WHERE WHAT IT READS IS OF BULK AT MOST 1048576: true; the input reads as it did. -/
def fnExactIsChainUptoRow : OpenClaim := { program := "ythjkdnneagnejaa", sum := "bddf14164423b3cf2da5a26513d69c9ba0b677dc7dfe58c16bb2ad2b3fc41898", func := "loop.example/g01411/laws.FnExactIsChain", spec := "fnExactIsChain", unfollowed := true, recurses := true, apart := false, narrowed := true }
def FnExactIsChainUptoSaid : Prop := fnExactIsChainUptoRow.holds Try.pinned (OpenSpec.upto fnExactIsChainSpec)

/-- 'laws.FnExactPairRows', WHERE WHAT IT READS IS OF BULK AT MOST 1048576: true; the input reads as it did. -/
def fnExactPairRowsUptoRow : OpenClaim := { program := "ythjkdnneagnejaa", sum := "bddf14164423b3cf2da5a26513d69c9ba0b677dc7dfe58c16bb2ad2b3fc41898", func := "loop.example/g01411/laws.FnExactPairRows", spec := "fnExactPairRows", apart := false, narrowed := true }
def FnExactPairRowsUptoSaid : Prop := fnExactPairRowsUptoRow.holds Try.pinned (OpenSpec.upto fnExactPairRowsSpec)

/-- 'laws.FnExactJoinOverPlace', WHERE WHAT IT READS IS OF BULK AT MOST 1048576: true; the input reads as it did. -/
def fnExactJoinOverPlaceUptoRow : OpenClaim := { program := "ythjkdnneagnejaa", sum := "bddf14164423b3cf2da5a26513d69c9ba0b677dc7dfe58c16bb2ad2b3fc41898", func := "loop.example/g01411/laws.FnExactJoinOverPlace", spec := "fnExactJoinOverPlace", apart := false, narrowed := true }
def FnExactJoinOverPlaceUptoSaid : Prop := fnExactJoinOverPlaceUptoRow.holds Try.pinned (OpenSpec.upto fnExactJoinOverPlaceSpec)

/-- 'laws.FnExactStrengthOf', WHERE WHAT IT READS IS OF BULK AT MOST 1048576: true; the input reads as it did. -/
def fnExactStrengthOfUptoRow : OpenClaim := { program := "ythjkdnneagnejaa", sum := "bddf14164423b3cf2da5a26513d69c9ba0b677dc7dfe58c16bb2ad2b3fc41898", func := "loop.example/g01411/laws.FnExactStrengthOf", spec := "fnExactStrengthOf", unfollowed := true, recurses := true, apart := false, narrowed := true }
def FnExactStrengthOfUptoSaid : Prop := fnExactStrengthOfUptoRow.holds Try.pinned (OpenSpec.upto fnExactStrengthOfSpec)

/-- 'laws.FnExactNewChoices', WHERE WHAT IT READS IS OF BULK AT MOST 1048576: true; the input reads as it did. -/
def fnExactNewChoicesUptoRow : OpenClaim := { program := "ythjkdnneagnejaa", sum := "bddf14164423b3cf2da5a26513d69c9ba0b677dc7dfe58c16bb2ad2b3fc41898", func := "loop.example/g01411/laws.FnExactNewChoices", spec := "fnExactNewChoices", unfollowed := true, recurses := true, apart := false, narrowed := true }
def FnExactNewChoicesUptoSaid : Prop := fnExactNewChoicesUptoRow.holds Try.pinned (OpenSpec.upto fnExactNewChoicesSpec)

/-- 'laws.FnExactNormAt', WHERE WHAT IT READS IS OF BULK AT MOST 1048576: true; the input reads as it did. -/
def fnExactNormAtUptoRow : OpenClaim := { program := "ythjkdnneagnejaa", sum := "bddf14164423b3cf2da5a26513d69c9ba0b677dc7dfe58c16bb2ad2b3fc41898", func := "loop.example/g01411/laws.FnExactNormAt", spec := "fnExactNormAt", apart := false, narrowed := true }
def FnExactNormAtUptoSaid : Prop := fnExactNormAtUptoRow.holds Try.pinned (OpenSpec.upto fnExactNormAtSpec)

/-- 'laws.FnExactGreedyRows', WHERE WHAT IT READS IS OF BULK AT MOST 1048576: true; the input reads as it did. -/
def fnExactGreedyRowsUptoRow : OpenClaim := { program := "ythjkdnneagnejaa", sum := "bddf14164423b3cf2da5a26513d69c9ba0b677dc7dfe58c16bb2ad2b3fc41898", func := "loop.example/g01411/laws.FnExactGreedyRows", spec := "fnExactGreedyRows", unfollowed := true, recurses := true, apart := false, narrowed := true }
def FnExactGreedyRowsUptoSaid : Prop := fnExactGreedyRowsUptoRow.holds Try.pinned (OpenSpec.upto fnExactGreedyRowsSpec)

/-- 'laws.FnExactLeanRows', WHERE WHAT IT READS IS OF BULK AT MOST 1048576: true; the input reads as it did. -/
def fnExactLeanRowsUptoRow : OpenClaim := { program := "ythjkdnneagnejaa", sum := "bddf14164423b3cf2da5a26513d69c9ba0b677dc7dfe58c16bb2ad2b3fc41898", func := "loop.example/g01411/laws.FnExactLeanRows", spec := "fnExactLeanRows", unfollowed := true, recurses := true, apart := false, narrowed := true }
def FnExactLeanRowsUptoSaid : Prop := fnExactLeanRowsUptoRow.holds Try.pinned (OpenSpec.upto fnExactLeanRowsSpec)

/-- 'laws.FnExactReachesOf', WHERE WHAT IT READS IS OF BULK AT MOST 1048576: true; the input reads as it did. -/
def fnExactReachesOfUptoRow : OpenClaim := { program := "ythjkdnneagnejaa", sum := "bddf14164423b3cf2da5a26513d69c9ba0b677dc7dfe58c16bb2ad2b3fc41898", func := "loop.example/g01411/laws.FnExactReachesOf", spec := "fnExactReachesOf", apart := false, narrowed := true }
def FnExactReachesOfUptoSaid : Prop := fnExactReachesOfUptoRow.holds Try.pinned (OpenSpec.upto fnExactReachesOfSpec)

/-- 'laws.FnExactCountMissing', WHERE WHAT IT READS IS OF BULK AT MOST 1048576: true; the input reads as it did. -/
def fnExactCountMissingUptoRow : OpenClaim := { program := "ythjkdnneagnejaa", sum := "bddf14164423b3cf2da5a26513d69c9ba0b677dc7dfe58c16bb2ad2b3fc41898", func := "loop.example/g01411/laws.FnExactCountMissing", spec := "fnExactCountMissing", unfollowed := true, recurses := true, apart := false, narrowed := true }
def FnExactCountMissingUptoSaid : Prop := fnExactCountMissingUptoRow.holds Try.pinned (OpenSpec.upto fnExactCountMissingSpec)

/-- 'laws.FnExactIsNormal', WHERE WHAT IT READS IS OF BULK AT MOST 1048576: true; the input reads as it did. -/
def fnExactIsNormalUptoRow : OpenClaim := { program := "ythjkdnneagnejaa", sum := "bddf14164423b3cf2da5a26513d69c9ba0b677dc7dfe58c16bb2ad2b3fc41898", func := "loop.example/g01411/laws.FnExactIsNormal", spec := "fnExactIsNormal", apart := false, narrowed := true }
def FnExactIsNormalUptoSaid : Prop := fnExactIsNormalUptoRow.holds Try.pinned (OpenSpec.upto fnExactIsNormalSpec)

/-- 'laws.FnExactMissingChoices', WHERE WHAT IT READS IS OF BULK AT MOST 1048576: true; the input reads as it did. -/
def fnExactMissingChoicesUptoRow : OpenClaim := { program := "ythjkdnneagnejaa", sum := "bddf14164423b3cf2da5a26513d69c9ba0b677dc7dfe58c16bb2ad2b3fc41898", func := "loop.example/g01411/laws.FnExactMissingChoices", spec := "fnExactMissingChoices", unfollowed := true, recurses := true, apart := false, narrowed := true }
def FnExactMissingChoicesUptoSaid : Prop := fnExactMissingChoicesUptoRow.holds Try.pinned (OpenSpec.upto fnExactMissingChoicesSpec)

/-- 'laws.FnExactWordsReached', WHERE WHAT IT READS IS OF BULK AT MOST 1048576: true; the input reads as it did. -/
def fnExactWordsReachedUptoRow : OpenClaim := { program := "ythjkdnneagnejaa", sum := "bddf14164423b3cf2da5a26513d69c9ba0b677dc7dfe58c16bb2ad2b3fc41898", func := "loop.example/g01411/laws.FnExactWordsReached", spec := "fnExactWordsReached", unfollowed := true, recurses := true, apart := false, narrowed := true }
def FnExactWordsReachedUptoSaid : Prop := fnExactWordsReachedUptoRow.holds Try.pinned (OpenSpec.upto fnExactWordsReachedSpec)

/-- 'laws.FnExactFitPlaces', WHERE WHAT IT READS IS OF BULK AT MOST 1048576: true; the input reads as it did. -/
def fnExactFitPlacesUptoRow : OpenClaim := { program := "ythjkdnneagnejaa", sum := "bddf14164423b3cf2da5a26513d69c9ba0b677dc7dfe58c16bb2ad2b3fc41898", func := "loop.example/g01411/laws.FnExactFitPlaces", spec := "fnExactFitPlaces", apart := false, narrowed := true }
def FnExactFitPlacesUptoSaid : Prop := fnExactFitPlacesUptoRow.holds Try.pinned (OpenSpec.upto fnExactFitPlacesSpec)

/-- 'laws.FnExactCodeByColumns', WHERE WHAT IT READS IS OF BULK AT MOST 1048576: true; the input reads as it did. -/
def fnExactCodeByColumnsUptoRow : OpenClaim := { program := "ythjkdnneagnejaa", sum := "bddf14164423b3cf2da5a26513d69c9ba0b677dc7dfe58c16bb2ad2b3fc41898", func := "loop.example/g01411/laws.FnExactCodeByColumns", spec := "fnExactCodeByColumns", unfollowed := true, recurses := true, apart := false, narrowed := true }
def FnExactCodeByColumnsUptoSaid : Prop := fnExactCodeByColumnsUptoRow.holds Try.pinned (OpenSpec.upto fnExactCodeByColumnsSpec)

/-- 'laws.FnExactChoiceBound', WHERE WHAT IT READS IS OF BULK AT MOST 1048576: true; the input reads as it did. -/
def fnExactChoiceBoundUptoRow : OpenClaim := { program := "ythjkdnneagnejaa", sum := "bddf14164423b3cf2da5a26513d69c9ba0b677dc7dfe58c16bb2ad2b3fc41898", func := "loop.example/g01411/laws.FnExactChoiceBound", spec := "fnExactChoiceBound", recurses := true, apart := false, narrowed := true }
def FnExactChoiceBoundUptoSaid : Prop := fnExactChoiceBoundUptoRow.holds Try.pinned (OpenSpec.upto fnExactChoiceBoundSpec)

end Rows
end Go.Proofs.Ythjkdnneagnejaa
