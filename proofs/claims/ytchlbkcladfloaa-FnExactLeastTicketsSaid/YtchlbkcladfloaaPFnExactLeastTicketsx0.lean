-- WALKS, by a program and by hand
import Derived.Test.YtchlbkcladfloaaProg
import Derived.Below
import Derived.Deep.Draws
import Derived.Deep.AppendLies
import Derived.Maps.AppendAt
import Derived.OwnWalk
import Derived.Laws.BytesArg
import Derived.Laws.MakeOwn
import Derived.Laws.OwnMore
import Derived.Deep.OwnRows
import Derived.Tactics
import Derived.Lib.ConvBytes
import Derived.Laws.Slices
import Derived.WalkKit
import Derived.KernelRfl
import Derived.RowKit3
import Derived.Deep.LoopGhost
import Derived.Deep.QuietTactic
import Derived.BigQuiet
import Derived.WideLaws
import Derived.Deep.DeepCutAuto
import Derived.Deep.CutBlock
import Derived.Deep.RegionHeld3
import Derived.Laws.Rows
import Derived.Lib.AppendStr
import Derived.ArgAppend
import Derived.Laws.IdiomCopy
import Derived.OrdersHeld
import Derived.Laws.BitsLemmas
import Derived.RowKit
import Derived.Laws.CopyOwn
import Derived.Test.YtchlbkcladfloaaLt
import Derived.Test.YtchlbkcladfloaaWWords
import Derived.Test.YtchlbkcladfloaaWLast
import Derived.Test.YtchlbkcladfloaaWTab
import Derived.Test.YtchlbkcladfloaaWFour
import Derived.Test.YtchlbkcladfloaaWQPut
import Derived.Test.YtchlbkcladfloaaWApart
import Derived.Test.YtchlbkcladfloaaWArr
import Derived.Test.YtchlbkcladfloaaWZeros
import Derived.Test.YtchlbkcladfloaaWFoot
import Derived.Test.YtchlbkcladfloaaWKept
import Derived.Test.YtchlbkcladfloaaWShare
import Derived.Test.YtchlbkcladfloaaWN
import Derived.Test.YtchlbkcladfloaaWFootNe
import Derived.Test.YtchlbkcladfloaaWAt
import Derived.Test.YtchlbkcladfloaaWEqStruct
import Derived.Test.YtchlbkcladfloaaWRepsOne
import Derived.Test.YtchlbkcladfloaaWInv
import Derived.Test.YtchlbkcladfloaaWInvWords
import Derived.Test.YtchlbkcladfloaaWGuard
import Derived.Test.YtchlbkcladfloaaWNEv
import Derived.Test.YtchlbkcladfloaaWMore
namespace Go.Proofs.Ytchlbkcladfloaa.PFnExactLeastTickets
open Go.RowKit Go.Proofs.Ytchlbkcladfloaa.DG Go.Proofs.YtchlbkcladfloaaW.PrintWords Go.Proofs.YtchlbkcladfloaaW.PrintLast Go.Proofs.YtchlbkcladfloaaW.PrintMore
attribute [local go_sem] max2_int min2_int max_two min_two max_three min_three max_four min_four   -- for this text's walks alone
set_option linter.unusedVariables false
set_option linter.unusedSimpArgs false



def errW : Option Int → Value
  | none => .nilIface
  | some c => .iface 0 (.int .i64 c)
theorem errW_none : errW none = .nilIface := rfl
theorem errW_some (c : Int) : errW (some c) = .iface 0 (.int .i64 c) := rfl

theorem info2 : (Try.prog.info? 2).map (fun i => (i.zero, i.size, i.bytes)) = some (some (.int .i64 0), 1, 8) := by kernel_rfl
-- the values' own types

end Go.Proofs.Ytchlbkcladfloaa.PFnExactLeastTickets
