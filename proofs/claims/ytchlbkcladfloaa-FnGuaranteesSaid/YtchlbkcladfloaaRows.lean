/-
  No cell of these rows narrows 'for every input' (looked for: loops, veiled, ifaces, maps, wideKeys, modest, calm, conditions, laid).
  DERIVED. THE GIVEN ROWS OF THIS SEAT. 4 by the template 'for every input the law returns true; each argument reads behind the call as it read before'; 0 by the template 'total and deterministic' (their statements: YtchlbkcladfloaaTotals.lean).
  GIVEN WITH THE SEED: the statements are not yours to turn. If you find one false, say at which input.
  Laid BY PROGRAM, IN A SANDBOX (cutbox-rows.mjs): the forced cells as the released guide's own fill.sh prints them over the translation b8349442355f9fe0… (all of the seat's roots in one cut). By AI agents, Wed Nov 11 2026. No macro, syntax, notation, axiom, sorry.
-/
import Derived.Test.YtchlbkcladfloaaChecked
import GoSem.Claim
import GoSem.ClaimJoined
import GoSem.ClaimMapViews
import Derived.JoinedTies
import Derived.KernelRfl
namespace Go.Proofs.Ytchlbkcladfloaa
/- THE CELL 'sum', in the pinned program and in every row, IS THE sha256 OF THE DUMP (.gsa) THAT YtchlbkcladfloaaProg.lean LOADS. Nothing in Lean hashes anything: it is a label: what it is worth is what the hold of that sum in a sandbox is worth. -/
noncomputable def Try.pinned : Pinned := { name := "ytchlbkcladfloaa", sum := "b8349442355f9fe0e2188c2d92fe00d6e9402f34e76fafb43c7f5a2aa9609146", checked := Try.checked }
namespace Rows
def none {H : Type} : Left H := { results := [], args := [] }

/-- 'laws.FnExactGreedyTickets': WHATEVER THE INPUT: true; the input reads as it did. -/
def fnExactGreedyTicketsSpec : ChangeSpec := { name := "fnExactGreedyTickets", fn := fun _ => fun
  | [d] => { results := [.lit (.bool true)], args := [d] }
  | _ => none }
def fnExactGreedyTicketsRow : OpenClaim := { program := "ytchlbkcladfloaa", sum := "b8349442355f9fe0e2188c2d92fe00d6e9402f34e76fafb43c7f5a2aa9609146", func := "loop.example/g01411/laws.FnExactGreedyTickets", spec := "fnExactGreedyTickets", recurses := true, apart := false }
def FnExactGreedyTicketsSaid : Prop := fnExactGreedyTicketsRow.holds Try.pinned (OpenSpec.ofChange fnExactGreedyTicketsSpec)

/-- ITS FALSE NEIGHBOUR: 'it returns false'. Refute it at one input. -/
def fnExactGreedyTicketsWrong : ChangeSpec := { name := "fnExactGreedyTickets", fn := fun _ => fun
  | [d] => { results := [.lit (.bool false)], args := [d] }
  | _ => none }
def FnExactGreedyTicketsWrongFalsely : Prop := fnExactGreedyTicketsRow.holds Try.pinned (OpenSpec.ofChange fnExactGreedyTicketsWrong)

/-- 'laws.FnExactLeastTickets': WHATEVER THE INPUT: true; the input reads as it did. -/
def fnExactLeastTicketsSpec : ChangeSpec := { name := "fnExactLeastTickets", fn := fun _ => fun
  | [d] => { results := [.lit (.bool true)], args := [d] }
  | _ => none }
def fnExactLeastTicketsRow : OpenClaim := { program := "ytchlbkcladfloaa", sum := "b8349442355f9fe0e2188c2d92fe00d6e9402f34e76fafb43c7f5a2aa9609146", func := "loop.example/g01411/laws.FnExactLeastTickets", spec := "fnExactLeastTickets", unfollowed := true, recurses := true, apart := false }
def FnExactLeastTicketsSaid : Prop := fnExactLeastTicketsRow.holds Try.pinned (OpenSpec.ofChange fnExactLeastTicketsSpec)

/-- ITS FALSE NEIGHBOUR: 'it returns false'. Refute it at one input. -/
def fnExactLeastTicketsWrong : ChangeSpec := { name := "fnExactLeastTickets", fn := fun _ => fun
  | [d] => { results := [.lit (.bool false)], args := [d] }
  | _ => none }
def FnExactLeastTicketsWrongFalsely : Prop := fnExactLeastTicketsRow.holds Try.pinned (OpenSpec.ofChange fnExactLeastTicketsWrong)

/-- 'laws.FnTickets': WHATEVER THE INPUT: true; the input reads as it did. -/
def fnTicketsSpec : ChangeSpec := { name := "fnTickets", fn := fun _ => fun
  | [d] => { results := [.lit (.bool true)], args := [d] }
  | _ => none }
def fnTicketsRow : OpenClaim := { program := "ytchlbkcladfloaa", sum := "b8349442355f9fe0e2188c2d92fe00d6e9402f34e76fafb43c7f5a2aa9609146", func := "loop.example/g01411/laws.FnTickets", spec := "fnTickets", unfollowed := true, recurses := true, apart := false }
def FnTicketsSaid : Prop := fnTicketsRow.holds Try.pinned (OpenSpec.ofChange fnTicketsSpec)

/-- ITS FALSE NEIGHBOUR: 'it returns false'. Refute it at one input. -/
def fnTicketsWrong : ChangeSpec := { name := "fnTickets", fn := fun _ => fun
  | [d] => { results := [.lit (.bool false)], args := [d] }
  | _ => none }
def FnTicketsWrongFalsely : Prop := fnTicketsRow.holds Try.pinned (OpenSpec.ofChange fnTicketsWrong)

/-- 'laws.FnGuarantees': WHATEVER THE INPUT: true; the input reads as it did. -/
def fnGuaranteesSpec : ChangeSpec := { name := "fnGuarantees", fn := fun _ => fun
  | [d] => { results := [.lit (.bool true)], args := [d] }
  | _ => none }
def fnGuaranteesRow : OpenClaim := { program := "ytchlbkcladfloaa", sum := "b8349442355f9fe0e2188c2d92fe00d6e9402f34e76fafb43c7f5a2aa9609146", func := "loop.example/g01411/laws.FnGuarantees", spec := "fnGuarantees", unfollowed := true, recurses := true, apart := false }
def FnGuaranteesSaid : Prop := fnGuaranteesRow.holds Try.pinned (OpenSpec.ofChange fnGuaranteesSpec)

/-- ITS FALSE NEIGHBOUR: 'it returns false'. Refute it at one input. -/
def fnGuaranteesWrong : ChangeSpec := { name := "fnGuarantees", fn := fun _ => fun
  | [d] => { results := [.lit (.bool false)], args := [d] }
  | _ => none }
def FnGuaranteesWrongFalsely : Prop := fnGuaranteesRow.holds Try.pinned (OpenSpec.ofChange fnGuaranteesWrong)

/- THE SECOND FORM. 'bulk': how many values and letters a reading holds, each counted each time it is reached (what is shared counts as often as it is met; a slice's spare places count too). A statement '..UptoSaid' is the law's where the arguments, and the package variables that the reading takes, are together of bulk at most 1048576: NARROWER than '..Said'. Prove '..Said' where nothing that the law and all that it calls make is longer than what came in: it says more and counts as full. Else prove '..UptoSaid'. A law counts once. -/
mutual
def uptoBulk {H : Type} : DataW H → Nat
  | .lit (.string bytes) => bytes.length + 1
  | .lit _ => 1
  | .nil => 1
  | .ptr d => uptoBulk d + 1
  | .slice elems spare => uptoBulkAll elems + uptoBulkAll spare + 1
  | .agg parts => uptoBulkAll parts + 1
  | .iface _ d => uptoBulk d + 1
  | .map entries => uptoBulkEntries entries + 1
  | .held _ => 1
def uptoBulkAll {H : Type} : List (DataW H) → Nat
  | [] => 0
  | d :: r => uptoBulk d + uptoBulkAll r
def uptoBulkEntries {H : Type} : List (Lit × DataW H) → Nat
  | [] => 0
  | x :: r => uptoBulkEntry x + uptoBulkEntries r
def uptoBulkEntry {H : Type} : Lit × DataW H → Nat
  | (.string bytes, d) => bytes.length + uptoBulk d + 1
  | (_, d) => uptoBulk d + 1
 end
def uptoSmall : (H : Type) → List (DataW H) → Bool := fun _ ds => decide (uptoBulkAll ds ≤ 1048576)
def OpenSpec.upto (s : _root_.Go.ChangeSpec) : _root_.Go.OpenSpec := { _root_.Go.OpenSpec.ofChange s with cond := some uptoSmall }

/-- 'laws.FnExactGreedyTickets', WHERE WHAT IT READS IS OF BULK AT MOST 1048576: true; the input reads as it did. -/
def fnExactGreedyTicketsUptoRow : OpenClaim := { program := "ytchlbkcladfloaa", sum := "b8349442355f9fe0e2188c2d92fe00d6e9402f34e76fafb43c7f5a2aa9609146", func := "loop.example/g01411/laws.FnExactGreedyTickets", spec := "fnExactGreedyTickets", recurses := true, apart := false, narrowed := true }
def FnExactGreedyTicketsUptoSaid : Prop := fnExactGreedyTicketsUptoRow.holds Try.pinned (OpenSpec.upto fnExactGreedyTicketsSpec)

/-- 'laws.FnExactLeastTickets', WHERE WHAT IT READS IS OF BULK AT MOST 1048576: true; the input reads as it did. -/
def fnExactLeastTicketsUptoRow : OpenClaim := { program := "ytchlbkcladfloaa", sum := "b8349442355f9fe0e2188c2d92fe00d6e9402f34e76fafb43c7f5a2aa9609146", func := "loop.example/g01411/laws.FnExactLeastTickets", spec := "fnExactLeastTickets", unfollowed := true, recurses := true, apart := false, narrowed := true }
def FnExactLeastTicketsUptoSaid : Prop := fnExactLeastTicketsUptoRow.holds Try.pinned (OpenSpec.upto fnExactLeastTicketsSpec)

/-- 'laws.FnTickets', WHERE WHAT IT READS IS OF BULK AT MOST 1048576: true; the input reads as it did. -/
def fnTicketsUptoRow : OpenClaim := { program := "ytchlbkcladfloaa", sum := "b8349442355f9fe0e2188c2d92fe00d6e9402f34e76fafb43c7f5a2aa9609146", func := "loop.example/g01411/laws.FnTickets", spec := "fnTickets", unfollowed := true, recurses := true, apart := false, narrowed := true }
def FnTicketsUptoSaid : Prop := fnTicketsUptoRow.holds Try.pinned (OpenSpec.upto fnTicketsSpec)

/-- 'laws.FnGuarantees', WHERE WHAT IT READS IS OF BULK AT MOST 1048576: true; the input reads as it did. -/
def fnGuaranteesUptoRow : OpenClaim := { program := "ytchlbkcladfloaa", sum := "b8349442355f9fe0e2188c2d92fe00d6e9402f34e76fafb43c7f5a2aa9609146", func := "loop.example/g01411/laws.FnGuarantees", spec := "fnGuarantees", unfollowed := true, recurses := true, apart := false, narrowed := true }
def FnGuaranteesUptoSaid : Prop := fnGuaranteesUptoRow.holds Try.pinned (OpenSpec.upto fnGuaranteesSpec)

end Rows
end Go.Proofs.Ytchlbkcladfloaa
