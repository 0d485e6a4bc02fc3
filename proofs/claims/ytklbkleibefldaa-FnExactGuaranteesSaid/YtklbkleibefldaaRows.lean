/-
  No cell of these rows narrows 'for every input' (looked for: loops, veiled, ifaces, maps, wideKeys, modest, calm, conditions, laid).
  DERIVED. THE GIVEN ROWS OF THIS SEAT. 19 by the template 'for every input the law returns true; each argument reads behind the call as it read before'; 0 by the template 'total and deterministic' (their statements: YtklbkleibefldaaTotals.lean).
  GIVEN WITH THE SEED: the statements are not yours to turn. If you find one false, say at which input.
  Laid BY PROGRAM, IN A SANDBOX (cutbox-rows.mjs): the forced cells as the released guide's own fill.sh prints them over the translation f5de258f0c76cb72… (all of the seat's roots in one cut). By AI agents, Wed Nov 11 2026. No macro, syntax, notation, axiom, sorry.
-/
import Derived.Test.YtklbkleibefldaaChecked
import GoSem.Claim
import GoSem.ClaimJoined
import GoSem.ClaimMapViews
import Derived.JoinedTies
import Derived.KernelRfl
namespace Go.Proofs.Ytklbkleibefldaa
/- THE CELL 'sum', in the pinned program and in every row, IS THE sha256 OF THE DUMP (.gsa) THAT YtklbkleibefldaaProg.lean LOADS. Nothing in Lean hashes anything: it is a label: what it is worth is what the hold of that sum in a sandbox is worth. -/
noncomputable def Try.pinned : Pinned := { name := "ytklbkleibefldaa", sum := "f5de258f0c76cb72a9c726146301f5c1c3c424de6cd4e25abfa11edbe761becf", checked := Try.checked }
namespace Rows
def none {H : Type} : Left H := { results := [], args := [] }

/-- 'laws.FnExactIsLottery': WHATEVER THE INPUT: true; the input reads as it did. -/
def fnExactIsLotterySpec : ChangeSpec := { name := "fnExactIsLottery", fn := fun _ => fun
  | [d] => { results := [.lit (.bool true)], args := [d] }
  | _ => none }
def fnExactIsLotteryRow : OpenClaim := { program := "ytklbkleibefldaa", sum := "f5de258f0c76cb72a9c726146301f5c1c3c424de6cd4e25abfa11edbe761becf", func := "loop.example/g01411/laws.FnExactIsLottery", spec := "fnExactIsLottery", apart := false }
def FnExactIsLotterySaid : Prop := fnExactIsLotteryRow.holds Try.pinned (OpenSpec.ofChange fnExactIsLotterySpec)

/-- ITS FALSE NEIGHBOUR: 'it returns false'. Refute it at one input. -/
def fnExactIsLotteryWrong : ChangeSpec := { name := "fnExactIsLottery", fn := fun _ => fun
  | [d] => { results := [.lit (.bool false)], args := [d] }
  | _ => none }
def FnExactIsLotteryWrongFalsely : Prop := fnExactIsLotteryRow.holds Try.pinned (OpenSpec.ofChange fnExactIsLotteryWrong)

/-- 'laws.FnExactTicketOf': WHATEVER THE INPUT: true; the input reads as it did. -/
def fnExactTicketOfSpec : ChangeSpec := { name := "fnExactTicketOf", fn := fun _ => fun
  | [d1, d2] => { results := [.lit (.bool true)], args := [d1, d2] }
  | _ => none }
def fnExactTicketOfRow : OpenClaim := { program := "ytklbkleibefldaa", sum := "f5de258f0c76cb72a9c726146301f5c1c3c424de6cd4e25abfa11edbe761becf", func := "loop.example/g01411/laws.FnExactTicketOf", spec := "fnExactTicketOf", apart := false }
def FnExactTicketOfSaid : Prop := fnExactTicketOfRow.holds Try.pinned (OpenSpec.ofChange fnExactTicketOfSpec)

/-- ITS FALSE NEIGHBOUR: 'it returns false'. Refute it at one input. -/
def fnExactTicketOfWrong : ChangeSpec := { name := "fnExactTicketOf", fn := fun _ => fun
  | [d1, d2] => { results := [.lit (.bool false)], args := [d1, d2] }
  | _ => none }
def FnExactTicketOfWrongFalsely : Prop := fnExactTicketOfRow.holds Try.pinned (OpenSpec.ofChange fnExactTicketOfWrong)

/-- 'laws.FnExactNumbersOf': WHATEVER THE INPUT: true; the input reads as it did. -/
def fnExactNumbersOfSpec : ChangeSpec := { name := "fnExactNumbersOf", fn := fun _ => fun
  | [d1, d2] => { results := [.lit (.bool true)], args := [d1, d2] }
  | _ => none }
def fnExactNumbersOfRow : OpenClaim := { program := "ytklbkleibefldaa", sum := "f5de258f0c76cb72a9c726146301f5c1c3c424de6cd4e25abfa11edbe761becf", func := "loop.example/g01411/laws.FnExactNumbersOf", spec := "fnExactNumbersOf", apart := false }
def FnExactNumbersOfSaid : Prop := fnExactNumbersOfRow.holds Try.pinned (OpenSpec.ofChange fnExactNumbersOfSpec)

/-- ITS FALSE NEIGHBOUR: 'it returns false'. Refute it at one input. -/
def fnExactNumbersOfWrong : ChangeSpec := { name := "fnExactNumbersOf", fn := fun _ => fun
  | [d1, d2] => { results := [.lit (.bool false)], args := [d1, d2] }
  | _ => none }
def FnExactNumbersOfWrongFalsely : Prop := fnExactNumbersOfRow.holds Try.pinned (OpenSpec.ofChange fnExactNumbersOfWrong)

/-- 'laws.FnExactCountDraws': WHATEVER THE INPUT: true; the input reads as it did. -/
def fnExactCountDrawsSpec : ChangeSpec := { name := "fnExactCountDraws", fn := fun _ => fun
  | [d] => { results := [.lit (.bool true)], args := [d] }
  | _ => none }
def fnExactCountDrawsRow : OpenClaim := { program := "ytklbkleibefldaa", sum := "f5de258f0c76cb72a9c726146301f5c1c3c424de6cd4e25abfa11edbe761becf", func := "loop.example/g01411/laws.FnExactCountDraws", spec := "fnExactCountDraws", apart := false }
def FnExactCountDrawsSaid : Prop := fnExactCountDrawsRow.holds Try.pinned (OpenSpec.ofChange fnExactCountDrawsSpec)

/-- ITS FALSE NEIGHBOUR: 'it returns false'. Refute it at one input. -/
def fnExactCountDrawsWrong : ChangeSpec := { name := "fnExactCountDraws", fn := fun _ => fun
  | [d] => { results := [.lit (.bool false)], args := [d] }
  | _ => none }
def FnExactCountDrawsWrongFalsely : Prop := fnExactCountDrawsRow.holds Try.pinned (OpenSpec.ofChange fnExactCountDrawsWrong)

/-- 'laws.FnExactCountTickets': WHATEVER THE INPUT: true; the input reads as it did. -/
def fnExactCountTicketsSpec : ChangeSpec := { name := "fnExactCountTickets", fn := fun _ => fun
  | [d] => { results := [.lit (.bool true)], args := [d] }
  | _ => none }
def fnExactCountTicketsRow : OpenClaim := { program := "ytklbkleibefldaa", sum := "f5de258f0c76cb72a9c726146301f5c1c3c424de6cd4e25abfa11edbe761becf", func := "loop.example/g01411/laws.FnExactCountTickets", spec := "fnExactCountTickets", apart := false }
def FnExactCountTicketsSaid : Prop := fnExactCountTicketsRow.holds Try.pinned (OpenSpec.ofChange fnExactCountTicketsSpec)

/-- ITS FALSE NEIGHBOUR: 'it returns false'. Refute it at one input. -/
def fnExactCountTicketsWrong : ChangeSpec := { name := "fnExactCountTickets", fn := fun _ => fun
  | [d] => { results := [.lit (.bool false)], args := [d] }
  | _ => none }
def FnExactCountTicketsWrongFalsely : Prop := fnExactCountTicketsRow.holds Try.pinned (OpenSpec.ofChange fnExactCountTicketsWrong)

/-- 'laws.FnExactCommonNumbers': WHATEVER THE INPUT: true; the input reads as it did. -/
def fnExactCommonNumbersSpec : ChangeSpec := { name := "fnExactCommonNumbers", fn := fun _ => fun
  | [d1, d2, d3] => { results := [.lit (.bool true)], args := [d1, d2, d3] }
  | _ => none }
def fnExactCommonNumbersRow : OpenClaim := { program := "ytklbkleibefldaa", sum := "f5de258f0c76cb72a9c726146301f5c1c3c424de6cd4e25abfa11edbe761becf", func := "loop.example/g01411/laws.FnExactCommonNumbers", spec := "fnExactCommonNumbers", apart := false }
def FnExactCommonNumbersSaid : Prop := fnExactCommonNumbersRow.holds Try.pinned (OpenSpec.ofChange fnExactCommonNumbersSpec)

/-- ITS FALSE NEIGHBOUR: 'it returns false'. Refute it at one input. -/
def fnExactCommonNumbersWrong : ChangeSpec := { name := "fnExactCommonNumbers", fn := fun _ => fun
  | [d1, d2, d3] => { results := [.lit (.bool false)], args := [d1, d2, d3] }
  | _ => none }
def FnExactCommonNumbersWrongFalsely : Prop := fnExactCommonNumbersRow.holds Try.pinned (OpenSpec.ofChange fnExactCommonNumbersWrong)

/-- 'laws.FnExactDrawsHit': WHATEVER THE INPUT: true; the input reads as it did. -/
def fnExactDrawsHitSpec : ChangeSpec := { name := "fnExactDrawsHit", fn := fun _ => fun
  | [d] => { results := [.lit (.bool true)], args := [d] }
  | _ => none }
def fnExactDrawsHitRow : OpenClaim := { program := "ytklbkleibefldaa", sum := "f5de258f0c76cb72a9c726146301f5c1c3c424de6cd4e25abfa11edbe761becf", func := "loop.example/g01411/laws.FnExactDrawsHit", spec := "fnExactDrawsHit", apart := false }
def FnExactDrawsHitSaid : Prop := fnExactDrawsHitRow.holds Try.pinned (OpenSpec.ofChange fnExactDrawsHitSpec)

/-- ITS FALSE NEIGHBOUR: 'it returns false'. Refute it at one input. -/
def fnExactDrawsHitWrong : ChangeSpec := { name := "fnExactDrawsHit", fn := fun _ => fun
  | [d] => { results := [.lit (.bool false)], args := [d] }
  | _ => none }
def FnExactDrawsHitWrongFalsely : Prop := fnExactDrawsHitRow.holds Try.pinned (OpenSpec.ofChange fnExactDrawsHitWrong)

/-- 'laws.FnExactTicketBound': WHATEVER THE INPUT: true; the input reads as it did. -/
def fnExactTicketBoundSpec : ChangeSpec := { name := "fnExactTicketBound", fn := fun _ => fun
  | [d] => { results := [.lit (.bool true)], args := [d] }
  | _ => none }
def fnExactTicketBoundRow : OpenClaim := { program := "ytklbkleibefldaa", sum := "f5de258f0c76cb72a9c726146301f5c1c3c424de6cd4e25abfa11edbe761becf", func := "loop.example/g01411/laws.FnExactTicketBound", spec := "fnExactTicketBound", apart := false }
def FnExactTicketBoundSaid : Prop := fnExactTicketBoundRow.holds Try.pinned (OpenSpec.ofChange fnExactTicketBoundSpec)

/-- ITS FALSE NEIGHBOUR: 'it returns false'. Refute it at one input. -/
def fnExactTicketBoundWrong : ChangeSpec := { name := "fnExactTicketBound", fn := fun _ => fun
  | [d] => { results := [.lit (.bool false)], args := [d] }
  | _ => none }
def FnExactTicketBoundWrongFalsely : Prop := fnExactTicketBoundRow.holds Try.pinned (OpenSpec.ofChange fnExactTicketBoundWrong)

/-- 'laws.FnExactTicketOfRank': WHATEVER THE INPUT: true; the input reads as it did. -/
def fnExactTicketOfRankSpec : ChangeSpec := { name := "fnExactTicketOfRank", fn := fun _ => fun
  | [d1, d2] => { results := [.lit (.bool true)], args := [d1, d2] }
  | _ => none }
def fnExactTicketOfRankRow : OpenClaim := { program := "ytklbkleibefldaa", sum := "f5de258f0c76cb72a9c726146301f5c1c3c424de6cd4e25abfa11edbe761becf", func := "loop.example/g01411/laws.FnExactTicketOfRank", spec := "fnExactTicketOfRank", apart := false }
def FnExactTicketOfRankSaid : Prop := fnExactTicketOfRankRow.holds Try.pinned (OpenSpec.ofChange fnExactTicketOfRankSpec)

/-- ITS FALSE NEIGHBOUR: 'it returns false'. Refute it at one input. -/
def fnExactTicketOfRankWrong : ChangeSpec := { name := "fnExactTicketOfRank", fn := fun _ => fun
  | [d1, d2] => { results := [.lit (.bool false)], args := [d1, d2] }
  | _ => none }
def FnExactTicketOfRankWrongFalsely : Prop := fnExactTicketOfRankRow.holds Try.pinned (OpenSpec.ofChange fnExactTicketOfRankWrong)

/-- 'laws.FnExactRankOfTicket': WHATEVER THE INPUT: true; the input reads as it did. -/
def fnExactRankOfTicketSpec : ChangeSpec := { name := "fnExactRankOfTicket", fn := fun _ => fun
  | [d1, d2] => { results := [.lit (.bool true)], args := [d1, d2] }
  | _ => none }
def fnExactRankOfTicketRow : OpenClaim := { program := "ytklbkleibefldaa", sum := "f5de258f0c76cb72a9c726146301f5c1c3c424de6cd4e25abfa11edbe761becf", func := "loop.example/g01411/laws.FnExactRankOfTicket", spec := "fnExactRankOfTicket", apart := false }
def FnExactRankOfTicketSaid : Prop := fnExactRankOfTicketRow.holds Try.pinned (OpenSpec.ofChange fnExactRankOfTicketSpec)

/-- ITS FALSE NEIGHBOUR: 'it returns false'. Refute it at one input. -/
def fnExactRankOfTicketWrong : ChangeSpec := { name := "fnExactRankOfTicket", fn := fun _ => fun
  | [d1, d2] => { results := [.lit (.bool false)], args := [d1, d2] }
  | _ => none }
def FnExactRankOfTicketWrongFalsely : Prop := fnExactRankOfTicketRow.holds Try.pinned (OpenSpec.ofChange fnExactRankOfTicketWrong)

/-- 'laws.FnExactPrizesOf': WHATEVER THE INPUT: true; the input reads as it did. -/
def fnExactPrizesOfSpec : ChangeSpec := { name := "fnExactPrizesOf", fn := fun _ => fun
  | [d1, d2, d3] => { results := [.lit (.bool true)], args := [d1, d2, d3] }
  | _ => none }
def fnExactPrizesOfRow : OpenClaim := { program := "ytklbkleibefldaa", sum := "f5de258f0c76cb72a9c726146301f5c1c3c424de6cd4e25abfa11edbe761becf", func := "loop.example/g01411/laws.FnExactPrizesOf", spec := "fnExactPrizesOf", apart := false }
def FnExactPrizesOfSaid : Prop := fnExactPrizesOfRow.holds Try.pinned (OpenSpec.ofChange fnExactPrizesOfSpec)

/-- ITS FALSE NEIGHBOUR: 'it returns false'. Refute it at one input. -/
def fnExactPrizesOfWrong : ChangeSpec := { name := "fnExactPrizesOf", fn := fun _ => fun
  | [d1, d2, d3] => { results := [.lit (.bool false)], args := [d1, d2, d3] }
  | _ => none }
def FnExactPrizesOfWrongFalsely : Prop := fnExactPrizesOfRow.holds Try.pinned (OpenSpec.ofChange fnExactPrizesOfWrong)

/-- 'laws.FnExactCountMissed': WHATEVER THE INPUT: true; the input reads as it did. -/
def fnExactCountMissedSpec : ChangeSpec := { name := "fnExactCountMissed", fn := fun _ => fun
  | [d1, d2] => { results := [.lit (.bool true)], args := [d1, d2] }
  | _ => none }
def fnExactCountMissedRow : OpenClaim := { program := "ytklbkleibefldaa", sum := "f5de258f0c76cb72a9c726146301f5c1c3c424de6cd4e25abfa11edbe761becf", func := "loop.example/g01411/laws.FnExactCountMissed", spec := "fnExactCountMissed", unfollowed := true, recurses := true, apart := false }
def FnExactCountMissedSaid : Prop := fnExactCountMissedRow.holds Try.pinned (OpenSpec.ofChange fnExactCountMissedSpec)

/-- ITS FALSE NEIGHBOUR: 'it returns false'. Refute it at one input. -/
def fnExactCountMissedWrong : ChangeSpec := { name := "fnExactCountMissed", fn := fun _ => fun
  | [d1, d2] => { results := [.lit (.bool false)], args := [d1, d2] }
  | _ => none }
def FnExactCountMissedWrongFalsely : Prop := fnExactCountMissedRow.holds Try.pinned (OpenSpec.ofChange fnExactCountMissedWrong)

/-- 'laws.FnExactGuarantees': WHATEVER THE INPUT: true; the input reads as it did. -/
def fnExactGuaranteesSpec : ChangeSpec := { name := "fnExactGuarantees", fn := fun _ => fun
  | [d1, d2] => { results := [.lit (.bool true)], args := [d1, d2] }
  | _ => none }
def fnExactGuaranteesRow : OpenClaim := { program := "ytklbkleibefldaa", sum := "f5de258f0c76cb72a9c726146301f5c1c3c424de6cd4e25abfa11edbe761becf", func := "loop.example/g01411/laws.FnExactGuarantees", spec := "fnExactGuarantees", unfollowed := true, recurses := true, apart := false }
def FnExactGuaranteesSaid : Prop := fnExactGuaranteesRow.holds Try.pinned (OpenSpec.ofChange fnExactGuaranteesSpec)

/-- ITS FALSE NEIGHBOUR: 'it returns false'. Refute it at one input. -/
def fnExactGuaranteesWrong : ChangeSpec := { name := "fnExactGuarantees", fn := fun _ => fun
  | [d1, d2] => { results := [.lit (.bool false)], args := [d1, d2] }
  | _ => none }
def FnExactGuaranteesWrongFalsely : Prop := fnExactGuaranteesRow.holds Try.pinned (OpenSpec.ofChange fnExactGuaranteesWrong)

/-- 'laws.FnExactFirstMissed': WHATEVER THE INPUT: true; the input reads as it did. -/
def fnExactFirstMissedSpec : ChangeSpec := { name := "fnExactFirstMissed", fn := fun _ => fun
  | [d1, d2] => { results := [.lit (.bool true)], args := [d1, d2] }
  | _ => none }
def fnExactFirstMissedRow : OpenClaim := { program := "ytklbkleibefldaa", sum := "f5de258f0c76cb72a9c726146301f5c1c3c424de6cd4e25abfa11edbe761becf", func := "loop.example/g01411/laws.FnExactFirstMissed", spec := "fnExactFirstMissed", unfollowed := true, recurses := true, apart := false }
def FnExactFirstMissedSaid : Prop := fnExactFirstMissedRow.holds Try.pinned (OpenSpec.ofChange fnExactFirstMissedSpec)

/-- ITS FALSE NEIGHBOUR: 'it returns false'. Refute it at one input. -/
def fnExactFirstMissedWrong : ChangeSpec := { name := "fnExactFirstMissed", fn := fun _ => fun
  | [d1, d2] => { results := [.lit (.bool false)], args := [d1, d2] }
  | _ => none }
def FnExactFirstMissedWrongFalsely : Prop := fnExactFirstMissedRow.holds Try.pinned (OpenSpec.ofChange fnExactFirstMissedWrong)

/-- 'laws.FnExactNeededTickets': WHATEVER THE INPUT: true; the input reads as it did. -/
def fnExactNeededTicketsSpec : ChangeSpec := { name := "fnExactNeededTickets", fn := fun _ => fun
  | [d1, d2] => { results := [.lit (.bool true)], args := [d1, d2] }
  | _ => none }
def fnExactNeededTicketsRow : OpenClaim := { program := "ytklbkleibefldaa", sum := "f5de258f0c76cb72a9c726146301f5c1c3c424de6cd4e25abfa11edbe761becf", func := "loop.example/g01411/laws.FnExactNeededTickets", spec := "fnExactNeededTickets", apart := false }
def FnExactNeededTicketsSaid : Prop := fnExactNeededTicketsRow.holds Try.pinned (OpenSpec.ofChange fnExactNeededTicketsSpec)

/-- ITS FALSE NEIGHBOUR: 'it returns false'. Refute it at one input. -/
def fnExactNeededTicketsWrong : ChangeSpec := { name := "fnExactNeededTickets", fn := fun _ => fun
  | [d1, d2] => { results := [.lit (.bool false)], args := [d1, d2] }
  | _ => none }
def FnExactNeededTicketsWrongFalsely : Prop := fnExactNeededTicketsRow.holds Try.pinned (OpenSpec.ofChange fnExactNeededTicketsWrong)

/-- 'laws.FnExactLeastTickets': WHATEVER THE INPUT: true; the input reads as it did. -/
def fnExactLeastTicketsSpec : ChangeSpec := { name := "fnExactLeastTickets", fn := fun _ => fun
  | [d] => { results := [.lit (.bool true)], args := [d] }
  | _ => none }
def fnExactLeastTicketsRow : OpenClaim := { program := "ytklbkleibefldaa", sum := "f5de258f0c76cb72a9c726146301f5c1c3c424de6cd4e25abfa11edbe761becf", func := "loop.example/g01411/laws.FnExactLeastTickets", spec := "fnExactLeastTickets", unfollowed := true, recurses := true, apart := false }
def FnExactLeastTicketsSaid : Prop := fnExactLeastTicketsRow.holds Try.pinned (OpenSpec.ofChange fnExactLeastTicketsSpec)

/-- ITS FALSE NEIGHBOUR: 'it returns false'. Refute it at one input. -/
def fnExactLeastTicketsWrong : ChangeSpec := { name := "fnExactLeastTickets", fn := fun _ => fun
  | [d] => { results := [.lit (.bool false)], args := [d] }
  | _ => none }
def FnExactLeastTicketsWrongFalsely : Prop := fnExactLeastTicketsRow.holds Try.pinned (OpenSpec.ofChange fnExactLeastTicketsWrong)

/-- 'laws.FnExactGreedyTickets': WHATEVER THE INPUT: true; the input reads as it did. -/
def fnExactGreedyTicketsSpec : ChangeSpec := { name := "fnExactGreedyTickets", fn := fun _ => fun
  | [d] => { results := [.lit (.bool true)], args := [d] }
  | _ => none }
def fnExactGreedyTicketsRow : OpenClaim := { program := "ytklbkleibefldaa", sum := "f5de258f0c76cb72a9c726146301f5c1c3c424de6cd4e25abfa11edbe761becf", func := "loop.example/g01411/laws.FnExactGreedyTickets", spec := "fnExactGreedyTickets", recurses := true, apart := false }
def FnExactGreedyTicketsSaid : Prop := fnExactGreedyTicketsRow.holds Try.pinned (OpenSpec.ofChange fnExactGreedyTicketsSpec)

/-- ITS FALSE NEIGHBOUR: 'it returns false'. Refute it at one input. -/
def fnExactGreedyTicketsWrong : ChangeSpec := { name := "fnExactGreedyTickets", fn := fun _ => fun
  | [d] => { results := [.lit (.bool false)], args := [d] }
  | _ => none }
def FnExactGreedyTicketsWrongFalsely : Prop := fnExactGreedyTicketsRow.holds Try.pinned (OpenSpec.ofChange fnExactGreedyTicketsWrong)

/-- 'laws.FnTickets': WHATEVER THE INPUT: true; the input reads as it did. -/
def fnTicketsSpec : ChangeSpec := { name := "fnTickets", fn := fun _ => fun
  | [d] => { results := [.lit (.bool true)], args := [d] }
  | _ => none }
def fnTicketsRow : OpenClaim := { program := "ytklbkleibefldaa", sum := "f5de258f0c76cb72a9c726146301f5c1c3c424de6cd4e25abfa11edbe761becf", func := "loop.example/g01411/laws.FnTickets", spec := "fnTickets", unfollowed := true, recurses := true, apart := false }
def FnTicketsSaid : Prop := fnTicketsRow.holds Try.pinned (OpenSpec.ofChange fnTicketsSpec)

/-- ITS FALSE NEIGHBOUR: 'it returns false'. Refute it at one input. -/
def fnTicketsWrong : ChangeSpec := { name := "fnTickets", fn := fun _ => fun
  | [d] => { results := [.lit (.bool false)], args := [d] }
  | _ => none }
def FnTicketsWrongFalsely : Prop := fnTicketsRow.holds Try.pinned (OpenSpec.ofChange fnTicketsWrong)

/-- 'laws.FnGuarantees': WHATEVER THE INPUT: true; the input reads as it did. -/
def fnGuaranteesSpec : ChangeSpec := { name := "fnGuarantees", fn := fun _ => fun
  | [d] => { results := [.lit (.bool true)], args := [d] }
  | _ => none }
def fnGuaranteesRow : OpenClaim := { program := "ytklbkleibefldaa", sum := "f5de258f0c76cb72a9c726146301f5c1c3c424de6cd4e25abfa11edbe761becf", func := "loop.example/g01411/laws.FnGuarantees", spec := "fnGuarantees", unfollowed := true, recurses := true, apart := false }
def FnGuaranteesSaid : Prop := fnGuaranteesRow.holds Try.pinned (OpenSpec.ofChange fnGuaranteesSpec)

/-- ITS FALSE NEIGHBOUR: 'it returns false'. Refute it at one input. -/
def fnGuaranteesWrong : ChangeSpec := { name := "fnGuarantees", fn := fun _ => fun
  | [d] => { results := [.lit (.bool false)], args := [d] }
  | _ => none }
def FnGuaranteesWrongFalsely : Prop := fnGuaranteesRow.holds Try.pinned (OpenSpec.ofChange fnGuaranteesWrong)

/- THE SECOND FORM. 'bulk': how many values and letters a reading holds, each counted each time it is reached (what is shared counts as often as it is met; a slice's spare places count too). A statement '..UptoSaid' is the law's where the arguments, and the package variables that the reading takes, are together of bulk at most 1048576: NARROWER than '..Said'. Prove '..Said' where nothing that the law and all that it calls make is longer than what came in: it says more and counts as full. Else prove '..UptoSaid'. A law counts once. -/
mutual
def uptoBulk {H : Type} : DataW H → Nat
  | .lit (.string bytes) => bytes.length + 1
  | .lit _ => 1
  | .nil => 1
  | .ptr d => uptoBulk d + 1
  | .slice elems spare => uptoBulkAll elems + uptoBulkAll spare + 1
  | .agg parts => uptoBulkAll parts + 1
  | .iface _ d => uptoBulk d + 1
  | .map entries => uptoBulkEntries entries + 1
  | .held _ => 1
def uptoBulkAll {H : Type} : List (DataW H) → Nat
  | [] => 0
  | d :: r => uptoBulk d + uptoBulkAll r
def uptoBulkEntries {H : Type} : List (Lit × DataW H) → Nat
  | [] => 0
  | x :: r => uptoBulkEntry x + uptoBulkEntries r
def uptoBulkEntry {H : Type} : Lit × DataW H → Nat
  | (.string bytes, d) => bytes.length + uptoBulk d + 1
  | (_, d) => uptoBulk d + 1
 end
def uptoSmall : (H : Type) → List (DataW H) → Bool := fun _ ds => decide (uptoBulkAll ds ≤ 1048576)
def OpenSpec.upto (s : _root_.Go.ChangeSpec) : _root_.Go.OpenSpec := { _root_.Go.OpenSpec.ofChange s with cond := some uptoSmall }

/-- 'laws.FnExactIsLottery', WHERE WHAT IT READS IS OF BULK AT MOST 1048576: true; the input reads as it did. -/
def fnExactIsLotteryUptoRow : OpenClaim := { program := "ytklbkleibefldaa", sum := "f5de258f0c76cb72a9c726146301f5c1c3c424de6cd4e25abfa11edbe761becf", func := "loop.example/g01411/laws.FnExactIsLottery", spec := "fnExactIsLottery", apart := false, narrowed := true }
def FnExactIsLotteryUptoSaid : Prop := fnExactIsLotteryUptoRow.holds Try.pinned (OpenSpec.upto fnExactIsLotterySpec)

/-- 'laws.FnExactTicketOf', WHERE WHAT IT READS IS OF BULK AT MOST 1048576: true; the input reads as it did. -/
def fnExactTicketOfUptoRow : OpenClaim := { program := "ytklbkleibefldaa", sum := "f5de258f0c76cb72a9c726146301f5c1c3c424de6cd4e25abfa11edbe761becf", func := "loop.example/g01411/laws.FnExactTicketOf", spec := "fnExactTicketOf", apart := false, narrowed := true }
def FnExactTicketOfUptoSaid : Prop := fnExactTicketOfUptoRow.holds Try.pinned (OpenSpec.upto fnExactTicketOfSpec)

/-- 'laws.FnExactNumbersOf', WHERE WHAT IT READS IS OF BULK AT MOST 1048576: true; the input reads as it did. -/
def fnExactNumbersOfUptoRow : OpenClaim := { program := "ytklbkleibefldaa", sum := "f5de258f0c76cb72a9c726146301f5c1c3c424de6cd4e25abfa11edbe761becf", func := "loop.example/g01411/laws.FnExactNumbersOf", spec := "fnExactNumbersOf", apart := false, narrowed := true }
def FnExactNumbersOfUptoSaid : Prop := fnExactNumbersOfUptoRow.holds Try.pinned (OpenSpec.upto fnExactNumbersOfSpec)

/-- 'laws.FnExactCountDraws', WHERE WHAT IT READS IS OF BULK AT MOST 1048576: true; the input reads as it did. -/
def fnExactCountDrawsUptoRow : OpenClaim := { program := "ytklbkleibefldaa", sum := "f5de258f0c76cb72a9c726146301f5c1c3c424de6cd4e25abfa11edbe761becf", func := "loop.example/g01411/laws.FnExactCountDraws", spec := "fnExactCountDraws", apart := false, narrowed := true }
def FnExactCountDrawsUptoSaid : Prop := fnExactCountDrawsUptoRow.holds Try.pinned (OpenSpec.upto fnExactCountDrawsSpec)

/-- 'laws.FnExactCountTickets', WHERE WHAT IT READS IS OF BULK AT MOST 1048576: true; the input reads as it did. -/
def fnExactCountTicketsUptoRow : OpenClaim := { program := "ytklbkleibefldaa", sum := "f5de258f0c76cb72a9c726146301f5c1c3c424de6cd4e25abfa11edbe761becf", func := "loop.example/g01411/laws.FnExactCountTickets", spec := "fnExactCountTickets", apart := false, narrowed := true }
def FnExactCountTicketsUptoSaid : Prop := fnExactCountTicketsUptoRow.holds Try.pinned (OpenSpec.upto fnExactCountTicketsSpec)

/-- 'laws.FnExactCommonNumbers', WHERE WHAT IT READS IS OF BULK AT MOST 1048576: true; the input reads as it did. -/
def fnExactCommonNumbersUptoRow : OpenClaim := { program := "ytklbkleibefldaa", sum := "f5de258f0c76cb72a9c726146301f5c1c3c424de6cd4e25abfa11edbe761becf", func := "loop.example/g01411/laws.FnExactCommonNumbers", spec := "fnExactCommonNumbers", apart := false, narrowed := true }
def FnExactCommonNumbersUptoSaid : Prop := fnExactCommonNumbersUptoRow.holds Try.pinned (OpenSpec.upto fnExactCommonNumbersSpec)

/-- 'laws.FnExactDrawsHit', WHERE WHAT IT READS IS OF BULK AT MOST 1048576: true; the input reads as it did. -/
def fnExactDrawsHitUptoRow : OpenClaim := { program := "ytklbkleibefldaa", sum := "f5de258f0c76cb72a9c726146301f5c1c3c424de6cd4e25abfa11edbe761becf", func := "loop.example/g01411/laws.FnExactDrawsHit", spec := "fnExactDrawsHit", apart := false, narrowed := true }
def FnExactDrawsHitUptoSaid : Prop := fnExactDrawsHitUptoRow.holds Try.pinned (OpenSpec.upto fnExactDrawsHitSpec)

/-- 'laws.FnExactTicketBound', WHERE WHAT IT READS IS OF BULK AT MOST 1048576: true; the input reads as it did. -/
def fnExactTicketBoundUptoRow : OpenClaim := { program := "ytklbkleibefldaa", sum := "f5de258f0c76cb72a9c726146301f5c1c3c424de6cd4e25abfa11edbe761becf", func := "loop.example/g01411/laws.FnExactTicketBound", spec := "fnExactTicketBound", apart := false, narrowed := true }
def FnExactTicketBoundUptoSaid : Prop := fnExactTicketBoundUptoRow.holds Try.pinned (OpenSpec.upto fnExactTicketBoundSpec)

/-- 'laws.FnExactTicketOfRank', WHERE WHAT IT READS IS OF BULK AT MOST 1048576: true; the input reads as it did. -/
def fnExactTicketOfRankUptoRow : OpenClaim := { program := "ytklbkleibefldaa", sum := "f5de258f0c76cb72a9c726146301f5c1c3c424de6cd4e25abfa11edbe761becf", func := "loop.example/g01411/laws.FnExactTicketOfRank", spec := "fnExactTicketOfRank", apart := false, narrowed := true }
def FnExactTicketOfRankUptoSaid : Prop := fnExactTicketOfRankUptoRow.holds Try.pinned (OpenSpec.upto fnExactTicketOfRankSpec)

/-- 'laws.FnExactRankOfTicket', WHERE WHAT IT READS IS OF BULK AT MOST 1048576: true; the input reads as it did. -/
def fnExactRankOfTicketUptoRow : OpenClaim := { program := "ytklbkleibefldaa", sum := "f5de258f0c76cb72a9c726146301f5c1c3c424de6cd4e25abfa11edbe761becf", func := "loop.example/g01411/laws.FnExactRankOfTicket", spec := "fnExactRankOfTicket", apart := false, narrowed := true }
def FnExactRankOfTicketUptoSaid : Prop := fnExactRankOfTicketUptoRow.holds Try.pinned (OpenSpec.upto fnExactRankOfTicketSpec)

/-- 'laws.FnExactPrizesOf', WHERE WHAT IT READS IS OF BULK AT MOST 1048576: true; the input reads as it did. -/
def fnExactPrizesOfUptoRow : OpenClaim := { program := "ytklbkleibefldaa", sum := "f5de258f0c76cb72a9c726146301f5c1c3c424de6cd4e25abfa11edbe761becf", func := "loop.example/g01411/laws.FnExactPrizesOf", spec := "fnExactPrizesOf", apart := false, narrowed := true }
def FnExactPrizesOfUptoSaid : Prop := fnExactPrizesOfUptoRow.holds Try.pinned (OpenSpec.upto fnExactPrizesOfSpec)

/-- 'laws.FnExactCountMissed', WHERE WHAT IT READS IS OF BULK AT MOST 1048576: true; the input reads as it did. -/
def fnExactCountMissedUptoRow : OpenClaim := { program := "ytklbkleibefldaa", sum := "f5de258f0c76cb72a9c726146301f5c1c3c424de6cd4e25abfa11edbe761becf", func := "loop.example/g01411/laws.FnExactCountMissed", spec := "fnExactCountMissed", unfollowed := true, recurses := true, apart := false, narrowed := true }
def FnExactCountMissedUptoSaid : Prop := fnExactCountMissedUptoRow.holds Try.pinned (OpenSpec.upto fnExactCountMissedSpec)

/-- 'laws.FnExactGuarantees', WHERE WHAT IT READS IS OF BULK AT MOST 1048576: true; the input reads as it did. -/
def fnExactGuaranteesUptoRow : OpenClaim := { program := "ytklbkleibefldaa", sum := "f5de258f0c76cb72a9c726146301f5c1c3c424de6cd4e25abfa11edbe761becf", func := "loop.example/g01411/laws.FnExactGuarantees", spec := "fnExactGuarantees", unfollowed := true, recurses := true, apart := false, narrowed := true }
def FnExactGuaranteesUptoSaid : Prop := fnExactGuaranteesUptoRow.holds Try.pinned (OpenSpec.upto fnExactGuaranteesSpec)

/-- 'laws.FnExactFirstMissed', WHERE WHAT IT READS IS OF BULK AT MOST 1048576: true; the input reads as it did. -/
def fnExactFirstMissedUptoRow : OpenClaim := { program := "ytklbkleibefldaa", sum := "f5de258f0c76cb72a9c726146301f5c1c3c424de6cd4e25abfa11edbe761becf", func := "loop.example/g01411/laws.FnExactFirstMissed", spec := "fnExactFirstMissed", unfollowed := true, recurses := true, apart := false, narrowed := true }
def FnExactFirstMissedUptoSaid : Prop := fnExactFirstMissedUptoRow.holds Try.pinned (OpenSpec.upto fnExactFirstMissedSpec)

/-- 'laws.FnExactNeededTickets', WHERE WHAT IT READS IS OF BULK AT MOST 1048576: true; the input reads as it did. -/
def fnExactNeededTicketsUptoRow : OpenClaim := { program := "ytklbkleibefldaa", sum := "f5de258f0c76cb72a9c726146301f5c1c3c424de6cd4e25abfa11edbe761becf", func := "loop.example/g01411/laws.FnExactNeededTickets", spec := "fnExactNeededTickets", apart := false, narrowed := true }
def FnExactNeededTicketsUptoSaid : Prop := fnExactNeededTicketsUptoRow.holds Try.pinned (OpenSpec.upto fnExactNeededTicketsSpec)

/-- 'laws.FnExactLeastTickets', WHERE WHAT IT READS IS OF BULK AT MOST 1048576: true; the input reads as it did. -/
def fnExactLeastTicketsUptoRow : OpenClaim := { program := "ytklbkleibefldaa", sum := "f5de258f0c76cb72a9c726146301f5c1c3c424de6cd4e25abfa11edbe761becf", func := "loop.example/g01411/laws.FnExactLeastTickets", spec := "fnExactLeastTickets", unfollowed := true, recurses := true, apart := false, narrowed := true }
def FnExactLeastTicketsUptoSaid : Prop := fnExactLeastTicketsUptoRow.holds Try.pinned (OpenSpec.upto fnExactLeastTicketsSpec)

/-- 'laws.FnExactGreedyTickets', WHERE WHAT IT READS IS OF BULK AT MOST 1048576: true; the input reads as it did. -/
def fnExactGreedyTicketsUptoRow : OpenClaim := { program := "ytklbkleibefldaa", sum := "f5de258f0c76cb72a9c726146301f5c1c3c424de6cd4e25abfa11edbe761becf", func := "loop.example/g01411/laws.FnExactGreedyTickets", spec := "fnExactGreedyTickets", recurses := true, apart := false, narrowed := true }
def FnExactGreedyTicketsUptoSaid : Prop := fnExactGreedyTicketsUptoRow.holds Try.pinned (OpenSpec.upto fnExactGreedyTicketsSpec)

/-- 'laws.FnTickets', WHERE WHAT IT READS IS OF BULK AT MOST 1048576: true; the input reads as it did. -/
def fnTicketsUptoRow : OpenClaim := { program := "ytklbkleibefldaa", sum := "f5de258f0c76cb72a9c726146301f5c1c3c424de6cd4e25abfa11edbe761becf", func := "loop.example/g01411/laws.FnTickets", spec := "fnTickets", unfollowed := true, recurses := true, apart := false, narrowed := true }
def FnTicketsUptoSaid : Prop := fnTicketsUptoRow.holds Try.pinned (OpenSpec.upto fnTicketsSpec)

/-- 'laws.FnGuarantees', WHERE WHAT IT READS IS OF BULK AT MOST 1048576: true; the input reads as it did. -/
def fnGuaranteesUptoRow : OpenClaim := { program := "ytklbkleibefldaa", sum := "f5de258f0c76cb72a9c726146301f5c1c3c424de6cd4e25abfa11edbe761becf", func := "loop.example/g01411/laws.FnGuarantees", spec := "fnGuarantees", unfollowed := true, recurses := true, apart := false, narrowed := true }
def FnGuaranteesUptoSaid : Prop := fnGuaranteesUptoRow.holds Try.pinned (OpenSpec.upto fnGuaranteesSpec)

end Rows
end Go.Proofs.Ytklbkleibefldaa
